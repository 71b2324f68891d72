/-
  The row FnExactPlaceElements: for every size, width and list of elements the program's PlaceElements returns what the reference's returns, in memory of its own, and leaves the list as it was; no condition.
-/
import Derived.Test.YteghpageamehkaaTkP
import Derived.Test.YteghpageamehkaaC15J
namespace Go.Proofs.Yteghpageamehkaa
set_option linter.unusedSimpArgs false
open Go.ChangeShapes Go.WideShapes Go.ChangeAt Go.RowKit Go.Deep

/-- In w (grown from w0): the block b7 of the reference's grid, the block b10 of the program's grid; the program's cells, made from B on; the reference's cells, made below b7. -/
def PeP (w0 : World) (b7 B b10 : Nat) (o7 o10 : Obj) (v : Value) (es : List Int) (Aa : Option Addr) (n1 : Nat) (x : List Int) (w : World) : Prop :=
  (w0.heap.size ≤ b7 ∧ b7 < B ∧ B ≤ b10 ∧ b10 < w.heap.size) ∧ Below w0.heap.size w0 w ∧ w.heap[b7]? = some o7 ∧ w.heap[b10]? = some o10 ∧ Own w B v es ∧ (∀ k, v.ownBlock = some k → k < b10) ∧ RI w b7 Aa n1 x
section
variable {w0 w w' : World} {b7 B b10 : Nat} {o7 o10 : Obj} {v : Value} {es es' x : List Int} {Aa : Option Addr} {n1 : Nat}
theorem PeP.sz (h : PeP w0 b7 B b10 o7 o10 v es Aa n1 x w) : w0.heap.size ≤ b7 ∧ b7 < B ∧ B ≤ b10 ∧ b10 < w.heap.size := h.1
theorem PeP.bw (h : PeP w0 b7 B b10 o7 o10 v es Aa n1 x w) : Below w0.heap.size w0 w := h.2.1
theorem PeP.k7 (h : PeP w0 b7 B b10 o7 o10 v es Aa n1 x w) : w.heap[b7]? = some o7 := h.2.2.1
theorem PeP.k10 (h : PeP w0 b7 B b10 o7 o10 v es Aa n1 x w) : w.heap[b10]? = some o10 := h.2.2.2.1
theorem PeP.own (h : PeP w0 b7 B b10 o7 o10 v es Aa n1 x w) : Own w B v es := h.2.2.2.2.1
theorem PeP.ra (h : PeP w0 b7 B b10 o7 o10 v es Aa n1 x w) : RI w b7 Aa n1 x := h.2.2.2.2.2.2
theorem PeP.below (h : PeP w0 b7 B b10 o7 o10 v es Aa n1 x w) (hb : Below w.heap.size w w') : PeP w0 b7 B b10 o7 o10 v es Aa n1 x w' := by
  obtain ⟨⟨h1, h2, h3, h4⟩, hB, k0, k1, hT, hl, ra⟩ := h
  have hs := hb.size
  exact ⟨⟨h1, h2, h3, by omega⟩, hB.trans (hb.mono (by omega)), (hb.block _ (by omega)).trans k0, (hb.block _ (by omega)).trans k1, hT.keep hb, hl, ra.below (hb.mono (by omega))⟩
theorem PeP.row0 {r : Option Nat} (h : PeP w0 b7 B b10 o7 o10 v es Aa n1 x w) (hg : w.grownBy w' r) (hr : ∀ k, r = some k → b7 < k ∧ k < B) : PeP w0 b7 B b10 o7 o10 v es Aa n1 x w' := by
  obtain ⟨⟨h1, h2, h3, h4⟩, hB, k0, k1, hT, hl, ra⟩ := h
  have hs := hg.size
  exact ⟨⟨h1, h2, h3, by omega⟩, hB.grown hg (by omega) (fun k e => by have := (hr k e).1; omega), (hg.block _ (by omega) (fun e => by have := (hr _ e.symm).1; omega)).trans k0, (hg.block _ (by omega) (fun e => by have := (hr _ e.symm).2; omega)).trans k1,
    World.ownsRow.kept hT hg (by
      cases hv : v.ownBlock with
      | none => exact .inl rfl
      | some k => exact .inr fun e => by have a := (World.ownsRow.lt hT k hv).1; have b := (hr k e.symm).2; omega), hl, ra.grown hg (by omega) (fun k e => by have := (hr k e).1; omega)⟩
theorem PeP.mark (h : PeP w0 b7 B b10 o7 o10 v es Aa n1 x w) (ho : Own w' B v es') (hg : w.grownBy w' v.ownBlock) : PeP w0 b7 B b10 o7 o10 v es' Aa n1 x w' := by
  obtain ⟨⟨h1, h2, h3, h4⟩, hB, k0, k1, hT, hl, ra⟩ := h
  have hs := hg.size
  have hr : ∀ k, v.ownBlock = some k → B ≤ k := fun k e => (World.ownsRow.lt hT k e).1
  exact ⟨⟨h1, h2, h3, by omega⟩, hB.grown hg (by omega) (fun k e => by have := hr k e; omega), (hg.block _ (by omega) (fun e => by have := hr _ e.symm; omega)).trans k0, (hg.block _ (by omega) (fun e => by have := hl _ e.symm; omega)).trans k1,
    ho, hl, ra.grown hg (by omega) (fun k e => by have := hr k e; omega)⟩
end
set_option maxRecDepth 20000 in
set_option maxHeartbeats 4000000 in
theorem lawPlaceElements (n d : Int) (A : Option Addr) (L cp : Nat) (es : List Int) (w : World) (hr : RI w w.heap.size A L es) (hn2 : L ≤ 9223372036854775807) :
    Calls Try.prog 4 #[.int .i64 n, .int .i64 d, .slice A L cp] w fun e' w' => e' = .returned (.bool true) ∧ Below w.heap.size w w' := by
  have HLN := Lib.hid hr.len
  have HR := Lib.hid hr
  clear hr
  by_cases hbig : L ≤ 1048576
  · have hbig' : (L : Int) ≤ 1048576 := by omega
    have s1 := fun (A : Option Addr) (cp : Nat) (w : World) (B : Nat) (hr : RI w B A L es) (hB : B ≤ w.heap.size) => sPlaceElements_any n d A L cp es w B hr hB (by omega)
    have s2 := fun (A : Option Addr) (cp : Nat) (w : World) (B : Nat) (hr : RI w B A L es) (hB : B ≤ w.heap.size) => PlaceElements_any n d A L cp es w B hr hB (by omega)
    have hle := peL_le n d es
    generalize peL n d es = ps at s1 s2 hle
    generalize peN n d es = N at s1 s2
    generalize peC n d es = C at s1 s2
    obtain ⟨T, hT⟩ : ∃ T, ps.length = T := ⟨_, rfl⟩
    rw [hT] at hle
    have HL := Lib.hid hT
    have S1 := Lib.hid s1
    have S2 := Lib.hid s2
    clear s1 s2 hT
    have h1 : (C != C) = false := by simp
    have HT := Lib.hid (fun w' (hb : Below w.heap.size w w') => toInt64S_any A L cp es w' w.heap.size (HR.out.below hb) hb.size (by omega))
    go_enter Try.func4, Try.ntmps4
    go_wp2_with fail
    go_at_call 19
    with_reducible refine (HT.out _ (Below.refl _ _)).mono ?_
    rintro e1 w1 ⟨v1, rfl, ho1, hb1⟩
    obtain ⟨A1, c1, rfl, hr1⟩ := ho1.shape
    rw [HLN.out] at hr1 ⊢
    have HR1 := Lib.hid hr1
    have HB1 := Lib.hid hb1
    have hs1 := hb1.size
    clear ho1 hr1 hb1
    go_wp2_with fail
    go_at_call 18
    with_reducible refine (S1.out _ _ _ _ HR1.out (Nat.le_refl _)).mono ?_
    rintro e2 w2 ⟨u2, rfl, ho2, hb2⟩
    obtain ⟨A2, c2, rfl, hr2⟩ := ho2.shape
    rw [HL.out] at hr2 ⊢
    have hs2 := hb2.size
    have HR2 := Lib.hid hr2
    have HB2 : Hid (Below w.heap.size w (w2.alloc (.cells #[.int .i64 N, .int .i64 N, .slice A2 T c2] 37))) := Lib.hid ((HB1.out.trans (hb2.mono hs1)).alloc (by omega) _)
    have HG2 : Hid ((w2.alloc (.cells #[.int .i64 N, .int .i64 N, .slice A2 T c2] 37)).heap[w2.heap.size]? = some (.cells #[.int .i64 N, .int .i64 N, .slice A2 T c2] 37 (0, 0))) := Lib.hid (heap_alloc_new _ _)
    have HR2' := Lib.hid (HR2.out.alloc (Nat.le_refl _) (.cells #[.int .i64 N, .int .i64 N, .slice A2 T c2] 37))
    clear ho2 hr2 hb2
    go_wp2_with fail
    go_at_call 19
    with_reducible refine (HT.out _ HB2.out).mono ?_
    rintro e3 w3 ⟨v3, rfl, ho3, hb3⟩
    obtain ⟨A3, c3, rfl, -⟩ := ho3.shape
    rw [HLN.out] at ho3 ⊢
    have hs3 := hb3.size
    simp only [World.size_alloc] at hs3
    have HO3 := Lib.hid (ho3.more (B' := w2.heap.size + 1) (by simp))
    have HOL3 := Lib.hid (World.ownsRow.lt HO3.out)
    have HG3 := Lib.hid (blk_below HG2.out hb3 (by simp))
    have HR23 := Lib.hid (HR2'.out.below (hb3.mono (by simp)))
    have HB3 := Lib.hid (HB2.out.trans (hb3.mono (by simp; omega)))
    clear ho3 hb3
    go_wp2_with fail
    go_at_call 20
    with_reducible refine (S2.out _ _ _ _ (HO3.out.ri HLN.out) (Nat.le_refl _)).mono ?_
    rintro e4 w4 ⟨u4, rfl, ho4, hb4⟩
    obtain ⟨A4, c4, rfl, -⟩ := ho4.shape
    rw [HL.out] at ho4 ⊢
    have hs4 := hb4.size
    have HP4 : Hid (PeP w w2.heap.size w3.heap.size w4.heap.size _ _ (.slice A4 T c4) ps A2 T ps (w4.alloc (.cells #[.int .i64 N, .int .i64 N, .slice A4 T c4] 37))) := Lib.hid
      ⟨⟨by omega, by omega, hs4, by simp⟩, (HB3.out.trans (hb4.mono (by omega))).alloc (by omega) _, blk_alloc (blk_below HG3.out hb4 (by omega)) (by omega), heap_alloc_new _ _, ho4.keep ((Below.refl _ _).alloc (Nat.le_refl _) _), fun k hk => (World.ownsRow.lt ho4 k hk).2, (HR23.out.below (hb4.mono (by omega))).alloc (by omega) _⟩
    have HO34 : Hid (Own (w4.alloc (.cells #[.int .i64 N, .int .i64 N, .slice A4 T c4] 37)) (w2.heap.size + 1) (.slice A3 L c3) es) := Lib.hid ((HO3.out.keep hb4).keep ((Below.refl _ _).alloc (Nat.le_refl _) _))
    clear ho4 hb4
    obtain ⟨a0, a1, a2, -⟩ := blk3 HP4.out.k7
    obtain ⟨b0, b1, b2, -⟩ := blk3 HP4.out.k10
    go_wp2_with fail
    go_at_call 21
    with_reducible refine (eqGrid_same N N A4 A2 T c4 c2 ps _ _ _ (HP4.out.own.ri HL.out) HP4.out.ra (Nat.le_refl _) (by have := HP4.out.sz; omega) (by omega)).mono ?_
    rintro e5 w5 ⟨rfl, hb5⟩
    have HP5 := Lib.hid (HP4.out.below hb5)
    have HO35 := Lib.hid (HO34.out.keep hb5)
    clear hb5 a0 a1 a2 b0 b1 b2
    go_wp2_with fail
    go_at_call 19
    with_reducible refine (HT.out _ HP5.out.bw).mono ?_
    rintro e6 w6 ⟨v6, rfl, ho6, hb6⟩
    obtain ⟨A6, c6, rfl, hr6⟩ := ho6.shape
    rw [HLN.out] at hr6 ⊢
    have HR6 := Lib.hid hr6
    have HP6 := Lib.hid (HP5.out.below hb6)
    have HO36 := Lib.hid (HO35.out.keep hb6)
    clear ho6 hr6 hb6
    go_wp2_with fail
    go_at_call 22
    with_reducible refine (eqI_same A3 A6 L c3 c6 es _ _ _ (HO36.out.ri HLN.out) HR6.out (by omega)).mono ?_
    rintro e7 w7 ⟨rfl, hb7⟩
    have HP7 := Lib.hid (HP6.out.below hb7)
    have HO37 := Lib.hid (HO36.out.keep hb7)
    clear hb7
    go_wp2_with fail
    go_at_call 23
    with_reducible refine (markInt64S_any _ es 1 _ _ HO37.out (by rw [HLN.out]; omega) (by omega) (by omega)).mono ?_
    rintro e8 w8 ⟨rfl, ho8, hg8⟩
    rw [HLN.out]
    have HP8 := Lib.hid (HP7.out.row0 hg8 (fun k e => by have := HOL3.out k e; omega))
    clear ho8 hg8
    obtain ⟨a0, a1, a2, -⟩ := blk3 HP8.out.k7
    obtain ⟨b0, b1, b2, -⟩ := blk3 HP8.out.k10
    go_wp2_with fail
    go_at_call 21
    with_reducible refine (eqGrid_same N N A4 A2 T c4 c2 ps _ _ _ (HP8.out.own.ri HL.out) HP8.out.ra (Nat.le_refl _) (by have := HP8.out.sz; omega) (by omega)).mono ?_
    rintro e9 w9 ⟨rfl, hb9⟩
    have HP9 := Lib.hid (HP8.out.below hb9)
    clear hb9 a0 a1 a2 b0 b1 b2
    obtain ⟨b0, b1, b2, -⟩ := blk3 HP9.out.k10
    go_wp2_with fail
    go_at_call 24
    with_reducible refine (markGrid_any N N _ ps 1 _ _ HP9.out.own (by rw [HL.out]; omega) (by omega) (by omega)).mono ?_
    rintro e10 w10 ⟨rfl, ho10, hg10⟩
    rw [HL.out] at ho10 ⊢
    have HP10 := Lib.hid (HP9.out.mark ho10 hg10)
    have h3 : ((1 + (T : Int)) != (1 + (T : Int))) = false := by simp
    clear ho10 hg10 b0 b1 b2
    obtain ⟨b0, b1, b2, -⟩ := blk3 HP10.out.k10
    go_wp2_with fail
    go_at_call 25
    with_reducible refine (heldGrid_any N N _ T 1 _ _ HP10.out.own (by omega) (by omega) (by omega)).mono ?_
    rintro e11 w11 ⟨rfl, hb11⟩
    have HP11 := Lib.hid (HP10.out.below hb11)
    clear hb11 b0 b1 b2
    go_wp2_with fail
    go_at_call 19
    with_reducible refine (HT.out _ HP11.out.bw).mono ?_
    rintro e12 w12 ⟨v12, rfl, ho12, hb12⟩
    obtain ⟨A12, c12, rfl, hr12⟩ := ho12.shape
    rw [HLN.out] at hr12 ⊢
    have HR12 := Lib.hid hr12
    have HP12 := Lib.hid (HP11.out.below hb12)
    clear ho12 hr12 hb12
    go_wp2_with fail
    go_at_call 20
    with_reducible refine (S2.out _ _ _ _ HR12.out (Nat.le_refl _)).mono ?_
    rintro e13 w13 ⟨u13, rfl, ho13, hb13⟩
    obtain ⟨A13, c13, rfl, hr13⟩ := ho13.shape
    rw [HL.out] at hr13 ⊢
    have HP13 : Hid (PeP w w2.heap.size w3.heap.size w4.heap.size _ _ (.slice A4 T c4) (marks 1 T) A2 T ps (w13.alloc (.cells #[.int .i64 N, .int .i64 N, .slice A13 T c13] 37))) := Lib.hid ((HP12.out.below hb13).below ((Below.refl _ _).alloc (Nat.le_refl _) _))
    have HR13 : Hid (RI (w13.alloc (.cells #[.int .i64 N, .int .i64 N, .slice A13 T c13] 37)) w13.heap.size A13 T ps) := Lib.hid (hr13.alloc (Nat.le_refl _) _)
    have HG13 : Hid ((w13.alloc (.cells #[.int .i64 N, .int .i64 N, .slice A13 T c13] 37)).heap[w13.heap.size]? = some (.cells #[.int .i64 N, .int .i64 N, .slice A13 T c13] 37 (0, 0))) := Lib.hid (heap_alloc_new _ _)
    have hs13 : w13.heap.size ≤ (w13.alloc (.cells #[.int .i64 N, .int .i64 N, .slice A13 T c13] 37)).heap.size := by simp
    clear ho13 hr13 hb13
    obtain ⟨a0, a1, a2, -⟩ := blk3 HP13.out.k7
    obtain ⟨b0, b1, b2, -⟩ := blk3 HG13.out
    go_wp2_with fail
    go_at_call 21
    with_reducible refine (eqGrid_same N N A13 A2 T c13 c2 ps _ _ _ HR13.out HP13.out.ra hs13 (by have := HP13.out.sz; omega) (by omega)).mono ?_
    rintro e14 w14 ⟨rfl, hb14⟩
    have HP14 := Lib.hid (HP13.out.below hb14)
    clear hb14 a0 a1 a2 b0 b1 b2
    obtain ⟨b0, b1, b2, -⟩ := blk3 HP14.out.k10
    go_wp2_with fail
    go_at_call 25
    with_reducible refine (heldGrid_any N N _ T 1 _ _ HP14.out.own (by omega) (by omega) (by omega)).mono ?_
    rintro e15 w15 ⟨rfl, hb15⟩
    have HP15 := Lib.hid (HP14.out.below hb15)
    go_wp2_with fail
    go_ret
    exact ⟨rfl, HP15.out.bw⟩
  · have hbig' : ¬ (L : Int) ≤ 1048576 := by omega
    go_enter Try.func4, Try.ntmps4
    go_wp2_with fail
    go_ret
    exact ⟨rfl, by (repeat (first | (with_reducible assumption) | (with_reducible exact Below.refl _ _) | (with_reducible refine below_drewN' ?_ _) | (with_reducible refine Below.drew ?_) | ((with_reducible refine Below.alloc ?_ ?_ _); rotate_left; focus (first | (simp; done) | (simp; omega) | omega)) | ((with_reducible refine Below.setCell ?_ ?_ _); rotate_left; focus (first | (simp; done) | (simp; omega) | omega))))⟩
set_option maxRecDepth 100000 in
theorem lifted_FnExactPlaceElements (os : Os) (started : os.Started) (H : Type) (enc : TypeId × Value → H) :
    ReturnsInHanded {} Try.checked os 4 .any (Rows.fnExactPlaceElementsSpec.pre6 enc Try.prog Try.f4 Rows.fnExactPlaceElementsRow.domain false) (Rows.fnExactPlaceElementsSpec.post enc Try.prog Try.f4 false true false false) := by
  refine law_lifted (C := Try.checked) (tb := 4) own started (by kernel_rfl) Try.func4
    (ChangeSpec.witness6 (enc := enc) (C := Try.checked) false ⟨#[], #[.int .i64 0, .int .i64 0, .slice none 0 0], []⟩ 8 (by kernel_rfl) (by kernel_rfl) (by kernel_rfl) (by kernel_rfl))
    laidOut (by kernel_rfl) rfl rfl Try.underlying4 ?_ ?_
  · intro ds hd
    match ds, hd with
    | [e0, e1, e2], _ => rfl
  · intro W base args ds p hval hA hlt hsz
    have hval1 : ∀ (j : Nat) t v, Try.f4.params[j]? = some t → args[j]? = some v → Value.okWide Try.prog W .any base t v := hval
    have hA1 : DataW.TrodAll enc Try.prog W 0 (fun _ => true) true Try.f4.params.toList args.toList ds p := hA
    have hsz1 : (DataW.weightsEach Try.prog Try.f4.params.toList ds).all (· ≤ reachBytes) = true := hsz
    rw [Try.params4] at hval1 hA1 hsz1
    clear hval hA hsz
    obtain ⟨v0, v1, v2, d0, d1, d2, p0, p1, p2, rfl, rfl, rfl, h0, h1, h2⟩ := trodAll_three hA1
    obtain ⟨n, rfl, _, _⟩ := ok_int Try.underlying2 (hval1 0 2 v0 rfl rfl)
    obtain ⟨d, rfl, _, _⟩ := ok_int Try.underlying2 (hval1 1 2 v1 rfl rfl)
    obtain ⟨A, L, c, es, rfl, hr, hn, _⟩ := arg_ints Try.underlying35 Try.underlying2 (by kernel_rfl) (hval1 2 35 v2 rfl rfl) h2 (fun x hx => hlt x (by simp [hx]))
    exact lawPlaceElements n d A L c es W hr hn
theorem holds_FnExactPlaceElements : Rows.FnExactPlaceElementsSaid :=
  OpenClaim.holds_of_wide 4 Try.f4 rfl rfl rfl rfl rfl rfl rfl ⟨rfl, rfl, rfl, rfl, rfl⟩ rfl rfl rfl rfl rfl (by kernel_rfl) Try.func4 (by kernel_rfl)
    (of_decide_eq_true (by kernel_rfl)) (by unfold Func.isWrapper; first | (rw [if_pos (by decide +kernel)]; kernel_rfl) | (rw [if_neg (by decide +kernel)]; exact ⟨rfl, rfl⟩))
    (fun os started H enc _ => lifted_FnExactPlaceElements os started H enc)

end Go.Proofs.Yteghpageamehkaa
