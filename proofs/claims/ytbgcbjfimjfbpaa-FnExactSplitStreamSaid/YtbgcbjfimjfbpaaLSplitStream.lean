/-
  The row FnExactSplitStream: for every layout and stream the program's SplitStream returns what the reference's returns, in memory of its own, and leaves the stream as it was; no condition. Printed by gen/lss.py.
-/
import Derived.Test.YtbgcbjfimjfbpaaC07N
import Derived.Test.YtbgcbjfimjfbpaaToL
import Derived.Test.YtbgcbjfimjfbpaaToS
import Derived.Test.YtbgcbjfimjfbpaaArgS
namespace Go.Proofs.Ytbgcbjfimjfbpaa
set_option linter.unusedSimpArgs false
open Go.ChangeShapes Go.WideShapes Go.ChangeAt Go.RowKit Go.Deep

theorem ssK_le (p k g data chk cnt : Int) (n : Nat) (xs : List Int) : ssK p k g data chk cnt n xs ≤ 16 := by
  unfold ssK
  cases h : layB p k g data chk cnt
  · simp
  · obtain ⟨D, C, H, rfl, rfl, rfl, hC, hC2, -⟩ := layB_true h
    simp only [Int.toNat_natCast, Bool.true_and]
    cases ssO p k (D + C * H) n xs <;> simp <;> omega
theorem ss_pick (p k g data chk cnt : Int) (n : Nat) (xs : List Int) : ∃ (wv : Nat → List Int) (ln : Nat → Nat), (∀ b, (wv b).length = ln b) ∧ (∀ b, ln b ≤ 2000) ∧
    ∀ (w : World) (B : Nat) (v : Value), SpV w B v (ssK p k g data chk cnt n xs) (wdL data.toNat cnt.toNat chk.toNat xs) → SpV w B v (ssK p k g data chk cnt n xs) wv := by
  cases h : layB p k g data chk cnt
  · refine ⟨fun _ => [], fun _ => 0, fun _ => rfl, fun _ => Nat.zero_le _, fun w B v hv => ?_⟩
    have e : ssK p k g data chk cnt n xs = 0 := by unfold ssK; rw [h]; rfl
    rw [e] at hv ⊢
    rcases hv with ⟨_, h2⟩ | ⟨_, _, h1, _⟩
    · exact .inl ⟨rfl, h2⟩
    · omega
  · obtain ⟨D, C, H, rfl, rfl, rfl, hC, hC2, hCD, hD, hH0, hH, -⟩ := layB_true h
    refine ⟨_, fun b => shN D C b + H, fun b => by simp only [Int.toNat_natCast]; exact wdL_len D C H xs b, fun b => ?_, fun _ _ _ hv => hv⟩
    have := Nat.div_le_self D C
    simp only [shN]
    split <;> omega
/-- What the law keeps: the box of the layout. -/
structure StA (w0 : World) (op : Obj) (W : World) : Prop where
  bl : Below w0.heap.size w0 W
  kp : W.heap[w0.heap.size]? = some op
theorem StA.below {w0 W W' : World} {op : Obj} (h : StA w0 op W) (hb : Below W.heap.size W W') : StA w0 op W' := ⟨h.bl.trans (hb.mono h.bl.size), blk_below h.kp hb (lt_of_block h.kp)⟩
theorem StA.six {w0 w' : World} {p t q b d l : Value} {ty : Nat} (h : StA w0 (.cells #[p, t, q, b, d, l] ty (0, 0)) w') : w'.cell? ⟨w0.heap.size, 0, none⟩ = some p ∧ w'.cell? ⟨w0.heap.size, 1, none⟩ = some t ∧ w'.cell? ⟨w0.heap.size, 2, none⟩ = some q ∧ w'.cell? ⟨w0.heap.size, 3, none⟩ = some b ∧ w'.cell? ⟨w0.heap.size, 4, none⟩ = some d ∧ w'.cell? ⟨w0.heap.size, 5, none⟩ = some l := by
  obtain ⟨a0, a1, a2, a3, a4, a5, -⟩ := blk6 h.kp
  exact ⟨a0, a1, a2, a3, a4, a5⟩
theorem RI.below2 {w w' : World} {A : Option Addr} {n : Nat} {xs : List Int} (h : RI w w.heap.size A n xs) (hb : Below w.heap.size w w') : RI w' w'.heap.size A n xs := (h.below hb).more hb.size
/-- .. and behind the reference's words (world w3) the program's words v. -/
structure SsP (w3 : World) (B6 : Nat) (v : Value) (n : Nat) (wv : Nat → List Int) (W : World) : Prop where
  b3 : Below w3.heap.size w3 W
  v6 : SpV W B6 v n wv
  le : w3.heap.size ≤ B6 ∧ B6 ≤ W.heap.size
theorem SsP.below {w3 W W' : World} {B6 n : Nat} {v : Value} {wv : Nat → List Int} (h : SsP w3 B6 v n wv W) (hb : Below W.heap.size W W') : SsP w3 B6 v n wv W' :=
  ⟨h.b3.trans (hb.mono h.b3.size), h.v6.keep hb, h.le.1, Nat.le_trans h.le.2 hb.size⟩
theorem SsP.other {w3 W W' : World} {B6 n : Nat} {v : Value} {wv : Nat → List Int} {row : Option Nat} (h : SsP w3 B6 v n wv W) (hg : W.grownBy W' row) (hr : ∀ k, row = some k → w3.heap.size ≤ k ∧ k < B6) : SsP w3 B6 v n wv W' := by
  cases row with
  | none => exact h.below ⟨hg.os, hg.tape, hg.output, hg.size, fun k hk => hg.block k hk (by simp)⟩
  | some k => exact ⟨h.b3.grown hg h.b3.size (fun j hj => by cases hj; exact (hr k rfl).1), h.v6.grownLt hg (hr k rfl).2, h.le.1, Nat.le_trans h.le.2 hg.size⟩
theorem SsP.turn {w3 W W' : World} {B6 n : Nat} {v : Value} {wv wv' : Nat → List Int} (h : SsP w3 B6 v n wv W) (hv : SpV W' B6 v n wv') (hb : Below B6 W W') : SsP w3 B6 v n wv' W' :=
  ⟨h.b3.trans (hb.mono h.le.1), hv, h.le.1, Nat.le_trans h.le.2 hb.size⟩
set_option maxRecDepth 20000 in
set_option maxHeartbeats 8000000 in
theorem lawSplitStream (p k g data chk cnt : Int) (A1 : Option Addr) (n1 cp1 : Nat) (xs : List Int) (w : World) (hr1 : RI w w.heap.size A1 n1 xs) (hm1 : n1 ≤ 9223372036854775807) :
    Calls Try.prog 7 #[.agg #[.int .i64 p, .int .i64 k, .int .i64 g, .int .i64 data, .int .i64 chk, .int .i64 cnt], .slice A1 n1 cp1] w fun e' w' => e' = .returned (.bool true) ∧ Below w.heap.size w w' := by
  have HR1 := Lib.hid hr1
  clear hr1
  by_cases hb1 : n1 ≤ 1048576
  case neg =>
    have hd : decide ((1048576 : Int) < (n1 : Int)) = true := decide_eq_true (by omega)
    go_enter Try.func7, Try.ntmps7
    go_wp2_with fail
    go_ret
    exact ⟨rfl, by (repeat (first | (with_reducible assumption) | (with_reducible exact Below.refl _ _) | (with_reducible refine below_drewN' ?_ _) | (with_reducible refine Below.drew ?_) | ((with_reducible refine Below.alloc ?_ ?_ _); rotate_left; focus (first | (simp; done) | (simp; omega) | omega)) | ((with_reducible refine Below.setCell ?_ ?_ _); rotate_left; focus (first | (simp; done) | (simp; omega) | omega))))⟩
  have hC16 := ssK_le p k g data chk cnt n1 xs
  obtain ⟨wv, ln, hwl, hln, hpk⟩ := ss_pick p k g data chk cnt n1 xs
  have s1 : ∀ (A : Option Addr) (c : Nat) (w : World), RI w w.heap.size A n1 xs → Calls Try.prog 36 #[.agg #[.int .i64 p, .int .i64 k, .int .i64 g, .int .i64 data, .int .i64 chk, .int .i64 cnt], .slice A n1 c] w fun e w' => ∃ v, e = .returned (.tuple #[v, .int .i64 (ssC p k g data chk cnt n1 xs)]) ∧ SpV w' w.heap.size v (ssK p k g data chk cnt n1 xs) wv ∧ Below w.heap.size w w' := fun A c w h => by
    refine (sSplitStream_any p k g data chk cnt A n1 c xs w h (by omega)).mono ?_
    rintro e w' ⟨v, he, hv, hb⟩
    exact ⟨v, he, hpk _ _ _ hv, hb⟩
  have s2 : ∀ (A : Option Addr) (c : Nat) (w : World), RI w w.heap.size A n1 xs → Calls Try.prog 37 #[.agg #[.int .i64 p, .int .i64 k, .int .i64 g, .int .i64 data, .int .i64 chk, .int .i64 cnt], .slice A n1 c] w fun e w' => ∃ v, e = .returned (.tuple #[v, .int .i64 (ssC p k g data chk cnt n1 xs)]) ∧ SpV w' w.heap.size v (ssK p k g data chk cnt n1 xs) wv ∧ Below w.heap.size w w' := fun A c w h => by
    refine (SplitStream_any p k g data chk cnt A n1 c xs w h (by omega)).mono ?_
    rintro e w' ⟨v, he, hv, hb⟩
    exact ⟨v, he, hpk _ _ _ hv, hb⟩
  clear hpk
  generalize ssK p k g data chk cnt n1 xs = Cn at *
  generalize ssC p k g data chk cnt n1 xs = K at *
  have S1 := Lib.hid s1
  have S2 := Lib.hid s2
  have hC100 : Cn ≤ 100 := by omega
  have HWN := Lib.hid hwl
  have HLN := Lib.hid hln
  have HWL := Lib.hid (fun b => (by rw [hwl b]; exact hln b : (wv b).length ≤ 2000))
  have e1 : (K != K) = false := by simp
  have hof := offN_le hln Cn
  have h4 : ¬ (1 + (offN ln Cn : Int)) < 0 := by omega
  have h3 : ((1 + (offN ln Cn : Int)) != (1 + (offN ln Cn : Int))) = false := by simp
  have h5 : ¬ (1 + (n1 : Int)) < 0 := by omega
  clear s1 s2 hwl hln
  have HL1 := Lib.hid HR1.out.len
  have HTL := Lib.hid (fun w => toLayout_any p k g data chk cnt w)
  have HT1 := Lib.hid (fun (w' : World) (hb : Below w.heap.size w w') => toInt64S_any A1 n1 cp1 xs w' w.heap.size (HR1.out.below hb) hb.size (by omega))
  have HX0 : Hid (StA w (.cells #[.int .i64 p, .int .i64 k, .int .i64 g, .int .i64 data, .int .i64 chk, .int .i64 cnt] 50 (0, 0)) (w.alloc (.cells #[.int .i64 p, .int .i64 k, .int .i64 g, .int .i64 data, .int .i64 chk, .int .i64 cnt] 50))) := Lib.hid ⟨(Below.refl _ _).alloc (Nat.le_refl _) _, heap_alloc_new _ _⟩
  go_enter Try.func7, Try.ntmps7
  go_upto_region 3 with fail
  generalize w.alloc (.cells #[.int .i64 p, .int .i64 k, .int .i64 g, .int .i64 data, .int .i64 chk, .int .i64 cnt] 50) = w0 at *
  obtain ⟨y0, y1, y2, y3, y4, y5⟩ := (HX0.out).six
  go_wp2_with fail
  go_at_call 27
  with_reducible refine (HTL.out _).mono ?_
  rintro e1 w1 ⟨rfl, hb1⟩
  clear y0 y1 y2 y3 y4 y5
  have HX1 := Lib.hid (HX0.out.below hb1)
  go_wp2_with fail
  go_at_call 33
  with_reducible refine (HT1.out _ (HX1.out.bl)).mono ?_
  rintro e2 w2 ⟨v2, rfl, ho2, hb2⟩
  obtain ⟨A2, c2, rfl, hri2⟩ : ∃ A c, v2 = .slice A n1 c ∧ RI w2 w2.heap.size A n1 xs := by have h := ho2.shape; rw [HL1.out] at h; exact h
  have HR2 := Lib.hid hri2
  have HO2 := Lib.hid ho2
  clear ho2 hri2
  have HX2 := Lib.hid (HX1.out.below hb2)
  go_wp2_with fail
  go_at_call 36
  with_reducible refine (S1.out _ _ _ HR2.out).mono ?_
  rintro e3 w3 ⟨v3, rfl, hv3, hb3⟩
  have HX3 := Lib.hid (HX2.out.below hb3)
  have HV3 := Lib.hid hv3
  clear hv3
  go_wp2_with fail
  go_at_call 33
  with_reducible refine (HT1.out _ (HX3.out.bl)).mono ?_
  rintro e4 w4 ⟨v4, rfl, ho4, hb4⟩
  obtain ⟨A4, c4, rfl, hri4⟩ : ∃ A c, v4 = .slice A n1 c ∧ RI w4 w4.heap.size A n1 xs := by have h := ho4.shape; rw [HL1.out] at h; exact h
  have HR4 := Lib.hid hri4
  have HO4 := Lib.hid ho4
  clear ho4 hri4
  have HX4 := Lib.hid (HX3.out.below hb4)
  have hs4 := hb4.size
  obtain ⟨y0, y1, y2, y3, y4, y5⟩ := (HX4.out).six
  go_wp2_with fail
  go_at_call 27
  with_reducible refine (HTL.out _).mono ?_
  rintro e5 w5 ⟨rfl, hb5⟩
  clear y0 y1 y2 y3 y4 y5
  have hs5 := hb5.size
  go_wp2_with fail
  go_at_call 37
  with_reducible refine (S2.out _ _ _ (HR4.out.below2 hb5)).mono ?_
  rintro e6 w6 ⟨v6, rfl, hv6, hb6⟩
  have HT6 : Hid (SsP w3 w5.heap.size v6 Cn wv w6) := Lib.hid ⟨(hb4.trans (hb5.mono hs4)).trans (hb6.mono (by omega)), hv6, by omega, hb6.size⟩
  have HO6 := Lib.hid ((HO4.out.keep hb5).keep hb6)
  have HOL := Lib.hid (fun k hk => ((World.ownsRow.lt HO4.out) k hk))
  have HR6 := Lib.hid ((HR4.out.below2 hb5).below2 hb6)
  clear hv6
  go_wp2_with fail
  go_at_call 38
  with_reducible refine (eqInt64SS_same v6 v3 Cn wv _ _ _ (HT6.out.v6) (HV3.out.keep HT6.out.b3) hC100 HWL.out).mono ?_
  rintro e7 w7 ⟨rfl, hb7⟩
  have HT7 := Lib.hid (HT6.out.below hb7)
  go_wp2_with fail
  go_at_call 33
  with_reducible refine (HT1.out _ ((HX3.out.below HT7.out.b3).bl)).mono ?_
  rintro e8 w8 ⟨v8, rfl, ho8, hb8⟩
  obtain ⟨A8, c8, rfl, hri8⟩ : ∃ A c, v8 = .slice A n1 c ∧ RI w8 w8.heap.size A n1 xs := by have h := ho8.shape; rw [HL1.out] at h; exact h
  have HR8 := Lib.hid hri8
  have HO8 := Lib.hid ho8
  clear ho8 hri8
  have HT8 := Lib.hid (HT7.out.below hb8)
  have HR68 := Lib.hid ((HR6.out.below2 hb7).below2 hb8)
  go_wp2_with fail
  go_at_call 35
  with_reducible refine (eqInt64S_any _ _ _ _ _ _ xs xs _ _ _ HR68.out HR8.out (by omega) (by omega)).mono ?_
  rintro e9 w9 ⟨rfl, m9, hm9⟩
  have hq9 : (xs == xs) = true := by simp
  have hb9 : Below w8.heap.size w8 w9 := by rw [hm9]; exact below_drewN' (Below.refl _ _) _
  have HT9 := Lib.hid (HT8.out.below hb9)
  have HO9 := Lib.hid (((HO6.out.keep hb7).keep hb8).keep hb9)
  clear hm9
  go_wp2_with fail
  go_at_call 39
  with_reducible refine (markInt64S_any (.slice A4 n1 c4) xs 1 _ _ HO9.out (by rw [HL1.out]; omega) (by omega) (by omega)).mono ?_
  rw [HL1.out]
  rintro e10 w10 ⟨rfl, ho10, hg10⟩
  have HT10 := Lib.hid (HT9.out.other hg10 (fun k hk => by have := HOL.out k hk; omega))
  clear ho10 hg10
  go_wp2_with fail
  go_at_call 38
  with_reducible refine (eqInt64SS_same v6 v3 Cn wv _ _ _ (HT10.out.v6) (HV3.out.keep HT10.out.b3) hC100 HWL.out).mono ?_
  rintro e11 w11 ⟨rfl, hb11⟩
  have HT11 := Lib.hid (HT10.out.below hb11)
  go_wp2_with fail
  go_at_call 40
  with_reducible refine (markInt64SS_any v6 Cn wv ln _ _ HT11.out.v6 hC100 HWN.out HLN.out HT11.out.le.2).mono ?_
  rintro e12 w12 ⟨rfl, hv12, hb12⟩
  have HT12 := Lib.hid (HT11.out.turn hv12 hb12)
  clear hv12 hb12
  go_wp2_with fail
  go_at_call 41
  with_reducible refine (heldInt64SS_any v6 Cn ln _ _ HT12.out.v6 hC100 HLN.out).mono ?_
  rintro e13 w13 ⟨rfl, rfl⟩
  obtain ⟨y0, y1, y2, y3, y4, y5⟩ := (HX3.out.below HT12.out.b3).six
  go_wp2_with fail
  go_at_call 27
  with_reducible refine (HTL.out _).mono ?_
  rintro e14 w14 ⟨rfl, hb14⟩
  clear y0 y1 y2 y3 y4 y5
  have HT14 := Lib.hid (HT12.out.below hb14)
  go_wp2_with fail
  go_at_call 33
  with_reducible refine (HT1.out _ ((HX3.out.below HT14.out.b3).bl)).mono ?_
  rintro e15 w15 ⟨v15, rfl, ho15, hb15⟩
  obtain ⟨A15, c15, rfl, hri15⟩ : ∃ A c, v15 = .slice A n1 c ∧ RI w15 w15.heap.size A n1 xs := by have h := ho15.shape; rw [HL1.out] at h; exact h
  have HR15 := Lib.hid hri15
  have HO15 := Lib.hid ho15
  clear ho15 hri15
  have HT15 := Lib.hid (HT14.out.below hb15)
  go_wp2_with fail
  go_at_call 37
  with_reducible refine (S2.out _ _ _ HR15.out).mono ?_
  rintro e16 w16 ⟨v16, rfl, hv16, hb16⟩
  have HV16 := Lib.hid hv16
  have HT16 := Lib.hid (HT15.out.below hb16)
  clear hv16
  go_wp2_with fail
  go_at_call 38
  with_reducible refine (eqInt64SS_same v16 v3 Cn wv _ _ _ (HV16.out) (HV3.out.keep HT16.out.b3) hC100 HWL.out).mono ?_
  rintro e17 w17 ⟨rfl, hb17⟩
  have HT17 := Lib.hid (HT16.out.below hb17)
  go_wp2_with fail
  go_at_call 41
  with_reducible refine (heldInt64SS_any v6 Cn ln _ _ HT17.out.v6 hC100 HLN.out).mono ?_
  rintro e18 w18 ⟨rfl, rfl⟩
  go_wp2_with fail
  go_ret
  exact ⟨rfl, (HX3.out.below HT17.out.b3).bl⟩
set_option maxRecDepth 100000 in
theorem lifted_FnExactSplitStream (os : Os) (started : os.Started) (H : Type) (enc : TypeId × Value → H) :
    ReturnsInHanded {} Try.checked os 7 .any (Rows.fnExactSplitStreamSpec.pre6 enc Try.prog Try.f7 Rows.fnExactSplitStreamRow.domain false) (Rows.fnExactSplitStreamSpec.post enc Try.prog Try.f7 false true false false) := by
  refine law_lifted (C := Try.checked) (tb := 4) own started (by kernel_rfl) Try.func7
    (ChangeSpec.witness6 (enc := enc) (C := Try.checked) false ⟨#[], #[.agg #[.int .i64 0, .int .i64 0, .int .i64 0, .int .i64 0, .int .i64 0, .int .i64 0], .slice none 0 0], []⟩ 8 (by kernel_rfl) (by kernel_rfl) (by kernel_rfl) (by kernel_rfl))
    laidOut (by kernel_rfl) rfl rfl Try.underlying4 ?_ ?_
  · intro ds hd
    match ds, hd with
    | [e0, e1], _ => rfl
  · intro W base args ds p hval hA hlt hsz
    have hval1 : ∀ (j : Nat) t v, Try.f7.params[j]? = some t → args[j]? = some v → Value.okWide Try.prog W .any base t v := hval
    have hA1 : DataW.TrodAll enc Try.prog W 0 (fun _ => true) true Try.f7.params.toList args.toList ds p := hA
    have hsz1 : (DataW.weightsEach Try.prog Try.f7.params.toList ds).all (· ≤ reachBytes) = true := hsz
    rw [Try.params7] at hval1 hA1 hsz1
    clear hval hA hsz
    obtain ⟨v0, v1, d0, d1, p0, p1, rfl, rfl, rfl, h0, h1⟩ := trodAll_two hA1
    obtain ⟨xs, hl, rfl, _⟩ := ok_agg_ints (n := 6) (e := 2) Try.underlying50 (by kernel_rfl) (by kernel_rfl) Try.underlying2 (hval1 0 50 v0 rfl rfl)
    obtain ⟨A1, n1, c1, ys, rfl, hr1, hm1, _⟩ := arg_ints Try.underlying24 Try.underlying2 (by kernel_rfl) (hval1 1 24 v1 rfl rfl) h1 (fun x hx => hlt x (by simp [hx]))
    match xs, hl with
    | [p, k, g, d, h, c], _ => exact lawSplitStream p k g d h c A1 n1 c1 ys W hr1 hm1
theorem holds_FnExactSplitStream : Rows.FnExactSplitStreamSaid :=
  OpenClaim.holds_of_wide 7 Try.f7 rfl rfl rfl rfl rfl rfl rfl ⟨rfl, rfl, rfl, rfl, rfl⟩ rfl rfl rfl rfl rfl (by kernel_rfl) Try.func7 (by kernel_rfl)
    (of_decide_eq_true (by kernel_rfl)) (by unfold Func.isWrapper; first | (rw [if_pos (by decide +kernel)]; kernel_rfl) | (rw [if_neg (by decide +kernel)]; exact ⟨rfl, rfl⟩))
    (fun os started H enc _ => lifted_FnExactSplitStream os started H enc)

end Go.Proofs.Ytbgcbjfimjfbpaa
