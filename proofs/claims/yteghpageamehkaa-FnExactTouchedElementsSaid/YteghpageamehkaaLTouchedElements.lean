/-
  The row FnExactTouchedElements: for every size, width and list of places the program's TouchedElements returns what the reference's returns, in memory of its own, and leaves the list as it was; no condition.
-/
import Derived.Test.YteghpageamehkaaTkP
import Derived.Test.YteghpageamehkaaC15R
namespace Go.Proofs.Yteghpageamehkaa
set_option linter.unusedSimpArgs false
open Go.ChangeShapes Go.WideShapes Go.ChangeAt Go.RowKit Go.Deep

/-- In w (grown from w0): the program's list, made from B on; the reference's list, made below b2. -/
def TuP (w0 : World) (b2 B : Nat) (v : Value) (es : List Int) (Aa : Option Addr) (n1 : Nat) (x : List Int) (w : World) : Prop :=
  (w0.heap.size ≤ b2 ∧ b2 ≤ B ∧ B ≤ w.heap.size) ∧ Below w0.heap.size w0 w ∧ Own w B v es ∧ RI w b2 Aa n1 x
section
variable {w0 w w' : World} {b2 B : Nat} {v : Value} {es es' x : List Int} {Aa : Option Addr} {n1 : Nat}
theorem TuP.sz (h : TuP w0 b2 B v es Aa n1 x w) : w0.heap.size ≤ b2 ∧ b2 ≤ B ∧ B ≤ w.heap.size := h.1
theorem TuP.bw (h : TuP w0 b2 B v es Aa n1 x w) : Below w0.heap.size w0 w := h.2.1
theorem TuP.own (h : TuP w0 b2 B v es Aa n1 x w) : Own w B v es := h.2.2.1
theorem TuP.ra (h : TuP w0 b2 B v es Aa n1 x w) : RI w b2 Aa n1 x := h.2.2.2
theorem TuP.below (h : TuP w0 b2 B v es Aa n1 x w) (hb : Below w.heap.size w w') : TuP w0 b2 B v es Aa n1 x w' := by
  obtain ⟨⟨h1, h2, h3⟩, hB, hT, ra⟩ := h
  have hs := hb.size
  exact ⟨⟨h1, h2, by omega⟩, hB.trans (hb.mono (by omega)), hT.keep hb, ra.below (hb.mono (by omega))⟩
theorem TuP.row0 {r : Option Nat} (h : TuP w0 b2 B v es Aa n1 x w) (hg : w.grownBy w' r) (hr : ∀ k, r = some k → b2 ≤ k ∧ k < B) : TuP w0 b2 B v es Aa n1 x w' := by
  obtain ⟨⟨h1, h2, h3⟩, hB, hT, ra⟩ := h
  have hs := hg.size
  exact ⟨⟨h1, h2, by omega⟩, hB.grown hg (by omega) (fun k e => by have := (hr k e).1; omega),
    World.ownsRow.kept hT hg (by
      cases hv : v.ownBlock with
      | none => exact .inl rfl
      | some k => exact .inr fun e => by have a := (World.ownsRow.lt hT k hv).1; have b := (hr k e.symm).2; omega), ra.grown hg (by omega) (fun k e => (hr k e).1)⟩
theorem TuP.mark (h : TuP w0 b2 B v es Aa n1 x w) (ho : Own w' B v es') (hg : w.grownBy w' v.ownBlock) : TuP w0 b2 B v es' Aa n1 x w' := by
  obtain ⟨⟨h1, h2, h3⟩, hB, hT, ra⟩ := h
  have hs := hg.size
  have hr : ∀ k, v.ownBlock = some k → B ≤ k := fun k e => (World.ownsRow.lt hT k e).1
  exact ⟨⟨h1, h2, by omega⟩, hB.grown hg (by omega) (fun k e => by have := hr k e; omega), ho, ra.grown hg (by omega) (fun k e => by have := hr k e; omega)⟩
end
set_option maxRecDepth 20000 in
set_option maxHeartbeats 4000000 in
theorem lawTouchedElements (n d : Int) (A : Option Addr) (L cp : Nat) (qs : List (Int × Int)) (w : World) (hr : RIP w w.heap.size A L qs) (hn2 : L ≤ 9223372036854775807) (hI : ∀ q ∈ qs, (-9223372036854775808 ≤ q.1 ∧ q.1 ≤ 9223372036854775807) ∧ (-9223372036854775808 ≤ q.2 ∧ q.2 ≤ 9223372036854775807)) :
    Calls Try.prog 5 #[.int .i64 n, .int .i64 d, .slice A L cp] w fun e' w' => e' = .returned (.bool true) ∧ Below w.heap.size w w' := by
  have HLN := Lib.hid hr.len
  have HR := Lib.hid hr
  clear hr
  by_cases hbig : L ≤ 1048576
  · have s1 := fun (A : Option Addr) (cp : Nat) (w : World) (B : Nat) (hr : RIP w B A L qs) (hB : B ≤ w.heap.size) => sTouchedElements_any n d A L cp qs w B hr hB (by omega)
    have s2 := fun (A : Option Addr) (cp : Nat) (w : World) (B : Nat) (hr : RIP w B A L qs) (hB : B ≤ w.heap.size) => TouchedElements_any n d A L cp qs w B hr hB (by omega) hI
    have hle := tuL_le n d qs
    generalize tuL n d qs = es at s1 s2 hle
    generalize tuC n d qs = C at s1 s2
    obtain ⟨T, hT⟩ : ∃ T, es.length = T := ⟨_, rfl⟩
    rw [hT] at hle
    have HL := Lib.hid hT
    have S1 := Lib.hid s1
    have S2 := Lib.hid s2
    clear s1 s2 hT hI
    have h1 : (C != C) = false := by simp
    have HT := Lib.hid (fun w' (hb : Below w.heap.size w w') => toPlaceS_any A L cp qs w' w.heap.size (HR.out.below hb) hb.size (by omega))
    go_enter Try.func5, Try.ntmps5
    go_wp2_with (go_at_call 26; refine (szPlaceS_ok _ _ _ 1048576 _ hbig (by omega)).mono ?_; rintro e w' ⟨rfl, rfl⟩)
    go_at_call 28
    with_reducible refine (HT.out _ (Below.refl _ _)).mono ?_
    rintro e1 w1 ⟨v1, rfl, ho1, hb1⟩
    obtain ⟨A1, c1, rfl⟩ := ho1.shape0
    rw [HLN.out] at ho1 ⊢
    have HR1 := Lib.hid (ho1.rip HLN.out)
    have HB1 := Lib.hid hb1
    have hs1 := hb1.size
    clear ho1 hb1
    go_wp2_with fail
    go_at_call 27
    with_reducible refine (S1.out _ _ _ _ HR1.out (Nat.le_refl _)).mono ?_
    rintro e2 w2 ⟨u2, rfl, ho2, hb2⟩
    obtain ⟨A2, c2, rfl, hr2⟩ := ho2.shape
    rw [HL.out] at hr2 ⊢
    have hs2 := hb2.size
    have HR2 := Lib.hid hr2
    have HB2 := Lib.hid (HB1.out.trans (hb2.mono hs1))
    clear ho2 hr2 hb2
    go_wp2_with fail
    go_at_call 28
    with_reducible refine (HT.out _ HB2.out).mono ?_
    rintro e3 w3 ⟨v3, rfl, ho3, hb3⟩
    obtain ⟨A3, c3, rfl⟩ := ho3.shape0
    rw [HLN.out] at ho3 ⊢
    have hs3 := hb3.size
    have HO3 := Lib.hid ho3
    have HOL3 := Lib.hid (World.ownsRow.lt HO3.out)
    have HR23 := Lib.hid (HR2.out.below hb3)
    have HB3 := Lib.hid (HB2.out.trans (hb3.mono (by omega)))
    clear ho3 hb3
    go_wp2_with fail
    go_at_call 29
    with_reducible refine (S2.out _ _ _ _ (HO3.out.rip HLN.out) (Nat.le_refl _)).mono ?_
    rintro e4 w4 ⟨u4, rfl, ho4, hb4⟩
    obtain ⟨A4, c4, rfl, -⟩ := ho4.shape
    rw [HL.out] at ho4 ⊢
    have hs4 := hb4.size
    have HP4 : Hid (TuP w w2.heap.size w3.heap.size (.slice A4 T c4) es A2 T es w4) := Lib.hid ⟨⟨by omega, hs3, hs4⟩, HB3.out.trans (hb4.mono (by omega)), ho4, HR23.out.below (hb4.mono (by omega))⟩
    have HO34 := Lib.hid (HO3.out.keep hb4)
    clear ho4 hb4
    go_wp2_with fail
    go_at_call 22
    with_reducible refine (eqI_same A4 A2 T c4 c2 es _ _ _ (HP4.out.own.ri HL.out) HP4.out.ra (by omega)).mono ?_
    rintro e5 w5 ⟨rfl, hb5⟩
    have HP5 := Lib.hid (HP4.out.below hb5)
    have HO35 := Lib.hid (HO34.out.keep hb5)
    clear hb5
    go_wp2_with fail
    go_at_call 28
    with_reducible refine (HT.out _ HP5.out.bw).mono ?_
    rintro e6 w6 ⟨v6, rfl, ho6, hb6⟩
    obtain ⟨A6, c6, rfl⟩ := ho6.shape0
    rw [HLN.out] at ho6 ⊢
    have HO6 := Lib.hid ho6
    have HP6 := Lib.hid (HP5.out.below hb6)
    have HO36 := Lib.hid (HO35.out.keep hb6)
    clear ho6 hb6
    go_wp2_with fail
    go_at_call 30
    with_reducible refine (eqPlaceS_same (.slice A3 L c3) (.slice A6 L c6) qs _ _ _ HO36.out HO6.out (by rw [HLN.out]; omega)).mono ?_
    rintro e7 w7 ⟨rfl, hb7⟩
    have HP7 := Lib.hid (HP6.out.below hb7)
    have HO37 := Lib.hid (HO36.out.keep hb7)
    clear hb7
    go_wp2_with fail
    go_at_call 31
    with_reducible refine (markPlaceS_any _ qs 1 _ _ HO37.out (by rw [HLN.out]; omega) (by omega) (by omega)).mono ?_
    rintro e8 w8 ⟨rfl, ho8, hg8⟩
    rw [HLN.out]
    have HP8 := Lib.hid (HP7.out.row0 hg8 (fun k e => HOL3.out k e))
    clear ho8 hg8
    go_wp2_with fail
    go_at_call 22
    with_reducible refine (eqI_same A4 A2 T c4 c2 es _ _ _ (HP8.out.own.ri HL.out) HP8.out.ra (by omega)).mono ?_
    rintro e9 w9 ⟨rfl, hb9⟩
    have HP9 := Lib.hid (HP8.out.below hb9)
    clear hb9
    go_wp2_with fail
    go_at_call 23
    with_reducible refine (markInt64S_any _ es 1 _ _ HP9.out.own (by rw [HL.out]; omega) (by omega) (by omega)).mono ?_
    rintro e10 w10 ⟨rfl, ho10, hg10⟩
    rw [HL.out] at ho10 ⊢
    have HP10 := Lib.hid (HP9.out.mark ho10 hg10)
    have h3 : ((1 + (T : Int)) != (1 + (T : Int))) = false := by simp
    clear ho10 hg10
    go_wp2_with fail
    go_at_call 32
    with_reducible refine (heldInt64S_any _ T 1 _ _ HP10.out.own (by omega) (by omega) (by omega)).mono ?_
    rintro e11 w11 ⟨rfl, rfl⟩
    go_wp2_with fail
    go_at_call 28
    with_reducible refine (HT.out _ HP10.out.bw).mono ?_
    rintro e12 w12 ⟨v12, rfl, ho12, hb12⟩
    obtain ⟨A12, c12, rfl⟩ := ho12.shape0
    rw [HLN.out] at ho12 ⊢
    have HR12 := Lib.hid (ho12.rip HLN.out)
    have HP12 := Lib.hid (HP10.out.below hb12)
    clear ho12 hb12
    go_wp2_with fail
    go_at_call 29
    with_reducible refine (S2.out _ _ _ _ HR12.out (Nat.le_refl _)).mono ?_
    rintro e13 w13 ⟨u13, rfl, ho13, hb13⟩
    obtain ⟨A13, c13, rfl, hr13⟩ := ho13.shape
    rw [HL.out] at hr13 ⊢
    have HR13 := Lib.hid hr13
    have HP13 := Lib.hid (HP12.out.below hb13)
    clear ho13 hr13 hb13
    go_wp2_with fail
    go_at_call 22
    with_reducible refine (eqI_same A13 A2 T c13 c2 es _ _ _ HR13.out HP13.out.ra (by omega)).mono ?_
    rintro e14 w14 ⟨rfl, hb14⟩
    have HP14 := Lib.hid (HP13.out.below hb14)
    clear hb14
    go_wp2_with fail
    go_at_call 32
    with_reducible refine (heldInt64S_any _ T 1 _ _ HP14.out.own (by omega) (by omega) (by omega)).mono ?_
    rintro e15 w15 ⟨rfl, rfl⟩
    go_wp2_with fail
    go_ret
    exact ⟨rfl, HP14.out.bw⟩
  · go_enter Try.func5, Try.ntmps5
    go_wp2_with (go_at_call 26; refine (szPlaceS_no _ _ _ 1048576 _ (by omega) hn2).mono ?_; rintro e w' ⟨rfl, rfl⟩)
    go_ret
    exact ⟨rfl, by (repeat (first | (with_reducible assumption) | (with_reducible exact Below.refl _ _) | (with_reducible refine below_drewN' ?_ _) | (with_reducible refine Below.drew ?_) | ((with_reducible refine Below.alloc ?_ ?_ _); rotate_left; focus (first | (simp; done) | (simp; omega) | omega)) | ((with_reducible refine Below.setCell ?_ ?_ _); rotate_left; focus (first | (simp; done) | (simp; omega) | omega))))⟩
set_option maxRecDepth 100000 in
theorem lifted_FnExactTouchedElements (os : Os) (started : os.Started) (H : Type) (enc : TypeId × Value → H) :
    ReturnsInHanded {} Try.checked os 5 .any (Rows.fnExactTouchedElementsSpec.pre6 enc Try.prog Try.f5 Rows.fnExactTouchedElementsRow.domain false) (Rows.fnExactTouchedElementsSpec.post enc Try.prog Try.f5 false true false false) := by
  refine law_lifted (C := Try.checked) (tb := 4) own started (by kernel_rfl) Try.func5
    (ChangeSpec.witness6 (enc := enc) (C := Try.checked) false ⟨#[], #[.int .i64 0, .int .i64 0, .slice none 0 0], []⟩ 8 (by kernel_rfl) (by kernel_rfl) (by kernel_rfl) (by kernel_rfl))
    laidOut (by kernel_rfl) rfl rfl Try.underlying4 ?_ ?_
  · intro ds hd
    match ds, hd with
    | [e0, e1, e2], _ => rfl
  · intro W base args ds p hval hA hlt hsz
    have hval1 : ∀ (j : Nat) t v, Try.f5.params[j]? = some t → args[j]? = some v → Value.okWide Try.prog W .any base t v := hval
    have hA1 : DataW.TrodAll enc Try.prog W 0 (fun _ => true) true Try.f5.params.toList args.toList ds p := hA
    have hsz1 : (DataW.weightsEach Try.prog Try.f5.params.toList ds).all (· ≤ reachBytes) = true := hsz
    rw [Try.params5] at hval1 hA1 hsz1
    clear hval hA hsz
    obtain ⟨v0, v1, v2, d0, d1, d2, p0, p1, p2, rfl, rfl, rfl, h0, h1, h2⟩ := trodAll_three hA1
    obtain ⟨n, rfl, _, _⟩ := ok_int Try.underlying2 (hval1 0 2 v0 rfl rfl)
    obtain ⟨d, rfl, _, _⟩ := ok_int Try.underlying2 (hval1 1 2 v1 rfl rfl)
    obtain ⟨A, L, c, qs, rfl, hr, hn, hI⟩ := arg_places Try.underlying46 Try.underlying86 (by kernel_rfl) (by kernel_rfl) (by kernel_rfl) (by kernel_rfl) (by kernel_rfl) Try.underlying2 Try.underlying2 (hval1 2 46 v2 rfl rfl) h2
    exact lawTouchedElements n d A L c qs W hr hn hI
theorem holds_FnExactTouchedElements : Rows.FnExactTouchedElementsSaid :=
  OpenClaim.holds_of_wide 5 Try.f5 rfl rfl rfl rfl rfl rfl rfl ⟨rfl, rfl, rfl, rfl, rfl⟩ rfl rfl rfl rfl rfl (by kernel_rfl) Try.func5 (by kernel_rfl)
    (of_decide_eq_true (by kernel_rfl)) (by unfold Func.isWrapper; first | (rw [if_pos (by decide +kernel)]; kernel_rfl) | (rw [if_neg (by decide +kernel)]; exact ⟨rfl, rfl⟩))
    (fun os started H enc _ => lifted_FnExactTouchedElements os started H enc)

end Go.Proofs.Yteghpageamehkaa
