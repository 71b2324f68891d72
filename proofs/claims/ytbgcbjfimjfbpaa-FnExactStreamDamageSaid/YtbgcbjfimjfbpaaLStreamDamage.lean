/-
  The row FnExactStreamDamage: for every layout and lists the program's StreamDamage returns what the reference's returns, and leaves the lists as they were; no condition. Printed by gen/lsd.py.
-/
import Derived.Test.YtbgcbjfimjfbpaaC07H
import Derived.Test.YtbgcbjfimjfbpaaToL
import Derived.Test.YtbgcbjfimjfbpaaToS
import Derived.Test.YtbgcbjfimjfbpaaArgS
namespace Go.Proofs.Ytbgcbjfimjfbpaa
set_option linter.unusedSimpArgs false
open Go.ChangeShapes Go.WideShapes Go.ChangeAt Go.RowKit Go.Deep

/-- What the law keeps: the box of the layout. -/
structure StA (w0 : World) (op : Obj) (W : World) : Prop where
  bl : Below w0.heap.size w0 W
  kp : W.heap[w0.heap.size]? = some op
theorem StA.below {w0 W W' : World} {op : Obj} (h : StA w0 op W) (hb : Below W.heap.size W W') : StA w0 op W' := ⟨h.bl.trans (hb.mono h.bl.size), blk_below h.kp hb (lt_of_block h.kp)⟩
theorem StA.six {w0 w' : World} {p t q b d l : Value} {ty : Nat} (h : StA w0 (.cells #[p, t, q, b, d, l] ty (0, 0)) w') : w'.cell? ⟨w0.heap.size, 0, none⟩ = some p ∧ w'.cell? ⟨w0.heap.size, 1, none⟩ = some t ∧ w'.cell? ⟨w0.heap.size, 2, none⟩ = some q ∧ w'.cell? ⟨w0.heap.size, 3, none⟩ = some b ∧ w'.cell? ⟨w0.heap.size, 4, none⟩ = some d ∧ w'.cell? ⟨w0.heap.size, 5, none⟩ = some l := by
  obtain ⟨a0, a1, a2, a3, a4, a5, -⟩ := blk6 h.kp
  exact ⟨a0, a1, a2, a3, a4, a5⟩
theorem RI.below2 {w w' : World} {A : Option Addr} {n : Nat} {xs : List Int} (h : RI w w.heap.size A n xs) (hb : Below w.heap.size w w') : RI w' w'.heap.size A n xs := (h.below hb).more hb.size
set_option maxRecDepth 20000 in
set_option maxHeartbeats 8000000 in
theorem lawStreamDamage (p k g data chk cnt : Int) (A1 A2 : Option Addr) (n1 n2 cp1 cp2 : Nat) (dm er : List Int) (w : World) (hr1 : RI w w.heap.size A1 n1 dm) (hr2 : RI w w.heap.size A2 n2 er) (hm1 : n1 ≤ 9223372036854775807) (hm2 : n2 ≤ 9223372036854775807) :
    Calls Try.prog 6 #[.agg #[.int .i64 p, .int .i64 k, .int .i64 g, .int .i64 data, .int .i64 chk, .int .i64 cnt], .slice A1 n1 cp1, .slice A2 n2 cp2] w fun e' w' => e' = .returned (.bool true) ∧ Below w.heap.size w w' := by
  have HR1 := Lib.hid hr1
  have HR2 := Lib.hid hr2
  clear hr1 hr2
  by_cases hb1 : n1 ≤ 1048576
  case neg =>
    have hd : decide ((1048576 : Int) < (n1 : Int)) = true := decide_eq_true (by omega)
    go_enter Try.func6, Try.ntmps6
    go_wp2_with fail
    go_ret
    exact ⟨rfl, by (repeat (first | (with_reducible assumption) | (with_reducible exact Below.refl _ _) | (with_reducible refine below_drewN' ?_ _) | (with_reducible refine Below.drew ?_) | ((with_reducible refine Below.alloc ?_ ?_ _); rotate_left; focus (first | (simp; done) | (simp; omega) | omega)) | ((with_reducible refine Below.setCell ?_ ?_ _); rotate_left; focus (first | (simp; done) | (simp; omega) | omega))))⟩
  by_cases hb2 : n2 ≤ 1048576
  case neg =>
    have hd : decide ((1048576 : Int) < (n2 : Int)) = true := decide_eq_true (by omega)
    go_enter Try.func6, Try.ntmps6
    go_wp2_with fail
    go_ret
    exact ⟨rfl, by (repeat (first | (with_reducible assumption) | (with_reducible exact Below.refl _ _) | (with_reducible refine below_drewN' ?_ _) | (with_reducible refine Below.drew ?_) | ((with_reducible refine Below.alloc ?_ ?_ _); rotate_left; focus (first | (simp; done) | (simp; omega) | omega)) | ((with_reducible refine Below.setCell ?_ ?_ _); rotate_left; focus (first | (simp; done) | (simp; omega) | omega))))⟩
  have s1 := fun (A A' : Option Addr) (c c' : Nat) (w : World) (h : RI w w.heap.size A n1 dm) (h' : RI w w.heap.size A' n2 er) => sStreamDamage_any p k g data chk cnt A A' n1 n2 c c' dm er w h h' (by omega) (by omega)
  have s2 := fun (A A' : Option Addr) (c c' : Nat) (w : World) (h : RI w w.heap.size A n1 dm) (h' : RI w w.heap.size A' n2 er) => StreamDamage_any p k g data chk cnt A A' n1 n2 c c' dm er w h h' (by omega) (by omega)
  generalize (sdR p k g data chk cnt dm er).1 = B at s1 s2
  generalize (sdR p k g data chk cnt dm er).2 = K at s1 s2
  have S1 := Lib.hid s1
  have S2 := Lib.hid s2
  have e1 : (B != B) = false := by simp
  have e2 : (K != K) = false := by simp
  clear s1 s2
  have HL1 := Lib.hid HR1.out.len
  have HL2 := Lib.hid HR2.out.len
  have HTL := Lib.hid (fun w => toLayout_any p k g data chk cnt w)
  have HT1 := Lib.hid (fun (w' : World) (hb : Below w.heap.size w w') => toInt64S_any A1 n1 cp1 dm w' w.heap.size (HR1.out.below hb) hb.size (by omega))
  have HT2 := Lib.hid (fun (w' : World) (hb : Below w.heap.size w w') => toInt64S_any A2 n2 cp2 er w' w.heap.size (HR2.out.below hb) hb.size (by omega))
  have HX0 : Hid (StA w (.cells #[.int .i64 p, .int .i64 k, .int .i64 g, .int .i64 data, .int .i64 chk, .int .i64 cnt] 50 (0, 0)) (w.alloc (.cells #[.int .i64 p, .int .i64 k, .int .i64 g, .int .i64 data, .int .i64 chk, .int .i64 cnt] 50))) := Lib.hid ⟨(Below.refl _ _).alloc (Nat.le_refl _) _, heap_alloc_new _ _⟩
  go_enter Try.func6, Try.ntmps6
  go_upto_region 5 with fail
  generalize w.alloc (.cells #[.int .i64 p, .int .i64 k, .int .i64 g, .int .i64 data, .int .i64 chk, .int .i64 cnt] 50) = w0 at *
  obtain ⟨y0, y1, y2, y3, y4, y5⟩ := HX0.out.six
  go_wp2_with fail
  go_at_call 27
  with_reducible refine (HTL.out _).mono ?_
  rintro e1 w1 ⟨rfl, hb1⟩
  have HX1 := Lib.hid (HX0.out.below hb1)
  have hs1 := hb1.size
  clear y0 y1 y2 y3 y4 y5
  go_wp2_with fail
  go_at_call 33
  with_reducible refine (HT1.out _ HX1.out.bl).mono ?_
  rintro e2 w2 ⟨v2, rfl, ho2, hb2⟩
  obtain ⟨A2, c2, rfl, hri2⟩ : ∃ A c, v2 = .slice A n1 c ∧ RI w2 w2.heap.size A n1 dm := by have h := ho2.shape; rw [HL1.out] at h; exact h
  have HX2 := Lib.hid (HX1.out.below hb2)
  have HR2 := Lib.hid hri2
  have hs2 := hb2.size
  clear ho2 hri2
  go_wp2_with fail
  go_at_call 33
  with_reducible refine (HT2.out _ HX2.out.bl).mono ?_
  rintro e3 w3 ⟨v3, rfl, ho3, hb3⟩
  obtain ⟨A3, c3, rfl, hri3⟩ : ∃ A c, v3 = .slice A n2 c ∧ RI w3 w3.heap.size A n2 er := by have h := ho3.shape; rw [HL2.out] at h; exact h
  have HX3 := Lib.hid (HX2.out.below hb3)
  have HR3 := Lib.hid hri3
  have hs3 := hb3.size
  clear ho3 hri3
  go_wp2_with fail
  go_at_call 32
  with_reducible refine (S1.out _ _ _ _ _ (HR2.out.below2 hb3) (HR3.out)).mono ?_
  rintro e4 w4 ⟨rfl, hb4⟩
  have HX4 := Lib.hid (HX3.out.below hb4)
  have hs4 := hb4.size
  go_wp2_with fail
  go_at_call 33
  with_reducible refine (HT1.out _ HX4.out.bl).mono ?_
  rintro e5 w5 ⟨v5, rfl, ho5, hb5⟩
  obtain ⟨A5, c5, rfl, hri5⟩ : ∃ A c, v5 = .slice A n1 c ∧ RI w5 w5.heap.size A n1 dm := by have h := ho5.shape; rw [HL1.out] at h; exact h
  have HX5 := Lib.hid (HX4.out.below hb5)
  have HR5 := Lib.hid hri5
  have hs5 := hb5.size
  clear ho5 hri5
  go_wp2_with fail
  go_at_call 33
  with_reducible refine (HT2.out _ HX5.out.bl).mono ?_
  rintro e6 w6 ⟨v6, rfl, ho6, hb6⟩
  obtain ⟨A6, c6, rfl, hri6⟩ : ∃ A c, v6 = .slice A n2 c ∧ RI w6 w6.heap.size A n2 er := by have h := ho6.shape; rw [HL2.out] at h; exact h
  have HX6 := Lib.hid (HX5.out.below hb6)
  have HR6 := Lib.hid hri6
  have hs6 := hb6.size
  clear ho6 hri6
  obtain ⟨y0, y1, y2, y3, y4, y5⟩ := HX6.out.six
  go_wp2_with fail
  go_at_call 27
  with_reducible refine (HTL.out _).mono ?_
  rintro e7 w7 ⟨rfl, hb7⟩
  have HX7 := Lib.hid (HX6.out.below hb7)
  have hs7 := hb7.size
  clear y0 y1 y2 y3 y4 y5
  go_wp2_with fail
  go_at_call 34
  with_reducible refine (S2.out _ _ _ _ _ ((HR5.out.below2 hb6).below2 hb7) (HR6.out.below2 hb7)).mono ?_
  rintro e8 w8 ⟨rfl, hb8⟩
  have HX8 := Lib.hid (HX7.out.below hb8)
  have hs8 := hb8.size
  go_wp2_with fail
  go_at_call 33
  with_reducible refine (HT1.out _ HX8.out.bl).mono ?_
  rintro e9 w9 ⟨v9, rfl, ho9, hb9⟩
  obtain ⟨A9, c9, rfl, hri9⟩ : ∃ A c, v9 = .slice A n1 c ∧ RI w9 w9.heap.size A n1 dm := by have h := ho9.shape; rw [HL1.out] at h; exact h
  have HX9 := Lib.hid (HX8.out.below hb9)
  have HR9 := Lib.hid hri9
  have hs9 := hb9.size
  clear ho9 hri9
  go_wp2_with fail
  go_at_call 35
  with_reducible refine (eqInt64S_any _ _ _ _ _ _ dm dm _ _ _ ((((HR5.out.below2 hb6).below2 hb7).below2 hb8).below2 hb9) (HR9.out) (by omega) (by omega)).mono ?_
  rintro e10 w10 ⟨rfl, m10, hm10⟩
  have hq10 : (dm == dm) = true := by simp
  have hb10 : Below w9.heap.size w9 w10 := by rw [hm10]; exact below_drewN' (Below.refl _ _) _
  have HX10 := Lib.hid (HX9.out.below hb10)
  clear hm10
  go_wp2_with fail
  go_at_call 33
  with_reducible refine (HT2.out _ HX10.out.bl).mono ?_
  rintro e11 w11 ⟨v11, rfl, ho11, hb11⟩
  obtain ⟨A11, c11, rfl, hri11⟩ : ∃ A c, v11 = .slice A n2 c ∧ RI w11 w11.heap.size A n2 er := by have h := ho11.shape; rw [HL2.out] at h; exact h
  have HX11 := Lib.hid (HX10.out.below hb11)
  have HR11 := Lib.hid hri11
  have hs11 := hb11.size
  clear ho11 hri11
  go_wp2_with fail
  go_at_call 35
  with_reducible refine (eqInt64S_any _ _ _ _ _ _ er er _ _ _ (((((HR6.out.below2 hb7).below2 hb8).below2 hb9).below2 hb10).below2 hb11) (HR11.out) (by omega) (by omega)).mono ?_
  rintro e12 w12 ⟨rfl, m12, hm12⟩
  have hq12 : (er == er) = true := by simp
  have hb12 : Below w11.heap.size w11 w12 := by rw [hm12]; exact below_drewN' (Below.refl _ _) _
  have HX12 := Lib.hid (HX11.out.below hb12)
  clear hm12
  go_wp2_with fail
  go_ret
  exact ⟨rfl, HX12.out.bl⟩
set_option maxRecDepth 100000 in
theorem lifted_FnExactStreamDamage (os : Os) (started : os.Started) (H : Type) (enc : TypeId × Value → H) :
    ReturnsInHanded {} Try.checked os 6 .any (Rows.fnExactStreamDamageSpec.pre6 enc Try.prog Try.f6 Rows.fnExactStreamDamageRow.domain false) (Rows.fnExactStreamDamageSpec.post enc Try.prog Try.f6 false true false false) := by
  refine law_lifted (C := Try.checked) (tb := 4) own started (by kernel_rfl) Try.func6
    (ChangeSpec.witness6 (enc := enc) (C := Try.checked) false ⟨#[], #[.agg #[.int .i64 0, .int .i64 0, .int .i64 0, .int .i64 0, .int .i64 0, .int .i64 0], .slice none 0 0, .slice none 0 0], []⟩ 8 (by kernel_rfl) (by kernel_rfl) (by kernel_rfl) (by kernel_rfl))
    laidOut (by kernel_rfl) rfl rfl Try.underlying4 ?_ ?_
  · intro ds hd
    match ds, hd with
    | [e0, e1, e2], _ => rfl
  · intro W base args ds p hval hA hlt hsz
    have hval1 : ∀ (j : Nat) t v, Try.f6.params[j]? = some t → args[j]? = some v → Value.okWide Try.prog W .any base t v := hval
    have hA1 : DataW.TrodAll enc Try.prog W 0 (fun _ => true) true Try.f6.params.toList args.toList ds p := hA
    have hsz1 : (DataW.weightsEach Try.prog Try.f6.params.toList ds).all (· ≤ reachBytes) = true := hsz
    rw [Try.params6] at hval1 hA1 hsz1
    clear hval hA hsz
    obtain ⟨v0, v1, v2, d0, d1, d2, p0, p1, p2, rfl, rfl, rfl, h0, h1, h2⟩ := trodAll_three hA1
    obtain ⟨xs, hl, rfl, _⟩ := ok_agg_ints (n := 6) (e := 2) Try.underlying50 (by kernel_rfl) (by kernel_rfl) Try.underlying2 (hval1 0 50 v0 rfl rfl)
    obtain ⟨A1, n1, c1, dm, rfl, hr1, hm1, _⟩ := arg_ints Try.underlying24 Try.underlying2 (by kernel_rfl) (hval1 1 24 v1 rfl rfl) h1 (fun x hx => hlt x (by simp [hx]))
    obtain ⟨A2, n2, c2, er, rfl, hr2, hm2, _⟩ := arg_ints Try.underlying24 Try.underlying2 (by kernel_rfl) (hval1 2 24 v2 rfl rfl) h2 (fun x hx => hlt x (by simp [hx]))
    match xs, hl with
    | [p, k, g, d, h, c], _ => exact lawStreamDamage p k g d h c A1 A2 n1 n2 c1 c2 dm er W hr1 hr2 hm1 hm2
theorem holds_FnExactStreamDamage : Rows.FnExactStreamDamageSaid :=
  OpenClaim.holds_of_wide 6 Try.f6 rfl rfl rfl rfl rfl rfl rfl ⟨rfl, rfl, rfl, rfl, rfl⟩ rfl rfl rfl rfl rfl (by kernel_rfl) Try.func6 (by kernel_rfl)
    (of_decide_eq_true (by kernel_rfl)) (by unfold Func.isWrapper; first | (rw [if_pos (by decide +kernel)]; kernel_rfl) | (rw [if_neg (by decide +kernel)]; exact ⟨rfl, rfl⟩))
    (fun os started H enc _ => lifted_FnExactStreamDamage os started H enc)

end Go.Proofs.Ytbgcbjfimjfbpaa
