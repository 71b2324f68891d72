/-
  The row FnExactTouchedModules: for every list of damages, print and size the program's TouchedModules returns what the reference's returns, in memory of its own, and leaves the list as it was; no condition. Printed by gen/ltm.py.
-/
import Derived.Test.YtffcjmnldmjocaaTmI
import Derived.Test.YtffcjmnldmjocaaArgD
import Derived.Deep.RegionHeld3
namespace Go.Proofs.Ytffcjmnldmjocaa
set_option linter.unusedSimpArgs false
open Go.ChangeShapes Go.WideShapes Go.ChangeAt Go.RowKit Go.Deep

set_option maxHeartbeats 4000000 in
theorem toPrint_any (p t q b d l : Int) (w : World) :
    Calls Try.prog 20 #[.agg #[.int .i64 p, .int .i64 t, .int .i64 q, .int .i64 b, .int .i64 d, .int .i64 l]] w fun e w' => e = .returned (.agg #[.int .i64 p, .int .i64 t, .int .i64 q, .int .i64 b, .int .i64 d, .int .i64 l]) ∧ Below w.heap.size w w' := by
  go_enter Try.func20, Try.ntmps20
  go_wp2
  go_returns
  exact ⟨rfl, by (repeat (first | (with_reducible assumption) | (with_reducible exact Below.refl _ _) | (with_reducible refine below_drewN' ?_ _) | (with_reducible refine Below.drew ?_) | ((with_reducible refine Below.alloc ?_ ?_ _); rotate_left; focus (first | (simp; done) | (simp; omega) | omega)) | ((with_reducible refine Below.setCell ?_ ?_ _); rotate_left; focus (first | (simp; done) | (simp; omega) | omega))))⟩
/-- What the law keeps: the box of the print. -/
structure TlA (w0 : World) (op : Obj) (W : World) : Prop where
  bl : Below w0.heap.size w0 W
  kp : W.heap[w0.heap.size]? = some op
theorem TlA.below {w0 W W' : World} {op : Obj} (h : TlA w0 op W) (hb : Below W.heap.size W W') : TlA w0 op W' := ⟨h.bl.trans (hb.mono h.bl.size), blk_below h.kp hb (lt_of_block h.kp)⟩
theorem TlA.six {w0 w' : World} {p t q b d l : Value} {ty : Nat} (h : TlA w0 (.cells #[p, t, q, b, d, l] ty (0, 0)) w') : w'.cell? ⟨w0.heap.size, 0, none⟩ = some (p) ∧ w'.cell? ⟨w0.heap.size, 1, none⟩ = some (t) ∧ w'.cell? ⟨w0.heap.size, 2, none⟩ = some (q) ∧ w'.cell? ⟨w0.heap.size, 3, none⟩ = some (b) ∧ w'.cell? ⟨w0.heap.size, 4, none⟩ = some (d) ∧ w'.cell? ⟨w0.heap.size, 5, none⟩ = some (l) := by
  obtain ⟨a0, a1, a2, a3, a4, a5, -⟩ := blk6 h.kp
  exact ⟨a0, a1, a2, a3, a4, a5⟩
/-- .. and the reference's places v1, the program's copy vx of the list, the program's places v2. -/
structure TlB (w0 : World) (op : Obj) (b1 m1 m2 : Nat) (v1 : Value) (ps : List (Int × Int)) (vx : Value) (n : Nat) (gs : List Int) (v2 : Value) (qs : List (Int × Int)) (W : World) : Prop where
  a : TlA w0 op W
  s : w0.heap.size < b1 ∧ b1 ≤ m1 ∧ m1 ≤ m2 ∧ m2 ≤ W.heap.size
  o1 : OwnP W b1 v1 ps
  r1 : ∀ k, v1.ownBlock = some k → k < m1
  ox : OwnG W m1 vx n gs
  rx : ∀ k, vx.ownBlock = some k → k < m2
  o2 : OwnP W m2 v2 qs
section
variable {w0 W W' : World} {op : Obj} {b1 m1 m2 n : Nat} {v1 vx v2 : Value} {ps qs qs' : List (Int × Int)} {gs gs' : List Int}
theorem TlB.below (h : TlB w0 op b1 m1 m2 v1 ps vx n gs v2 qs W) (hb : Below W.heap.size W W') : TlB w0 op b1 m1 m2 v1 ps vx n gs v2 qs W' := by
  obtain ⟨a, s, o1, r1, ox, rx, o2⟩ := h
  have := hb.size
  exact ⟨a.below hb, ⟨s.1, s.2.1, s.2.2.1, by omega⟩, o1.keep hb, r1, ox.keep hb, rx, o2.keep hb⟩
theorem TlB.markx (h : TlB w0 op b1 m1 m2 v1 ps vx n gs v2 qs W) (hg : W.grownBy W' vx.ownBlock) (ho : OwnG W' m1 vx n gs') : TlB w0 op b1 m1 m2 v1 ps vx n gs' v2 qs W' := by
  obtain ⟨a, s, o1, r1, ox, rx, o2⟩ := h
  have hs := hg.size
  have hrow : ∀ k, vx.ownBlock = some k → m1 ≤ k ∧ k < m2 := fun k hk => ⟨ox.rows k hk, rx k hk⟩
  refine ⟨⟨a.bl.grown hg a.bl.size (fun k hk => by have := hrow k hk; omega), (hg.block _ (lt_of_block a.kp) (fun e => by have := hrow _ e.symm; omega)).trans a.kp⟩, ⟨s.1, s.2.1, s.2.2.1, by omega⟩, ?_, r1, ho, rx, ?_⟩
  · exact World.ownsRow.kept o1 hg (by
      cases hv : v1.ownBlock with
      | none => exact .inl rfl
      | some k => exact .inr fun e => by have := r1 k hv; have := hrow k e.symm; omega)
  · exact World.ownsRow.kept o2 hg (by
      cases hv : v2.ownBlock with
      | none => exact .inl rfl
      | some k => exact .inr fun e => by have := o2.rows k hv; have := hrow k e.symm; omega)
theorem TlB.mark2 (h : TlB w0 op b1 m1 m2 v1 ps vx n gs v2 qs W) (hg : W.grownBy W' v2.ownBlock) (ho : OwnP W' m2 v2 qs') : TlB w0 op b1 m1 m2 v1 ps vx n gs v2 qs' W' := by
  obtain ⟨a, s, o1, r1, ox, rx, o2⟩ := h
  have hs := hg.size
  have hrow : ∀ k, v2.ownBlock = some k → m2 ≤ k := fun k hk => o2.rows k hk
  refine ⟨⟨a.bl.grown hg a.bl.size (fun k hk => by have := hrow k hk; omega), (hg.block _ (lt_of_block a.kp) (fun e => by have := hrow _ e.symm; omega)).trans a.kp⟩, ⟨s.1, s.2.1, s.2.2.1, by omega⟩, ?_, r1, ?_, rx, ho⟩
  · exact World.ownsRow.kept o1 hg (by
      cases hv : v1.ownBlock with
      | none => exact .inl rfl
      | some k => exact .inr fun e => by have := r1 k hv; have := hrow k e.symm; omega)
  · exact World.ownsRow.kept ox hg (by
      cases hv : vx.ownBlock with
      | none => exact .inl rfl
      | some k => exact .inr fun e => by have := rx k hv; have := hrow k e.symm; omega)
end
set_option maxRecDepth 20000 in
set_option maxHeartbeats 8000000 in
theorem lawTouchedModules (A : Option Addr) (n cp : Nat) (fs : List Int) (p t q b d l R C : Int) (w : World) (hr : RI w w.heap.size A (n * 6) fs) (hn2 : n ≤ 9223372036854775807) :
    Calls Try.prog 6 #[.slice A n cp, .agg #[.int .i64 p, .int .i64 t, .int .i64 q, .int .i64 b, .int .i64 d, .int .i64 l], .int .i64 R, .int .i64 C] w fun e' w' => e' = .returned (.bool true) ∧ Below w.heap.size w w' := by
  have HR := Lib.hid hr
  clear hr
  by_cases hbig : n ≤ 1048576
  · have s1 := fun (A : Option Addr) (cp : Nat) (w : World) (B : Nat) (hr : RI w B A (n * 6) fs) (hB : B ≤ w.heap.size) => sTouchedModules_any R C p t q b d l A n cp fs w B hr hB (by omega)
    have s2 := fun (A : Option Addr) (cp : Nat) (w : World) (B : Nat) (hr : RI w B A (n * 6) fs) (hB : B ≤ w.heap.size) => TouchedModules_any R C p t q b d l A n cp fs w B hr hB (by omega)
    have hle := tmL_le R C p t q b d l fs n
    generalize tmL R C p t q b d l fs n = ps at s1 s2 hle
    generalize tmC R C p t q b d l fs n = K at s1 s2
    have S1 := Lib.hid s1
    have S2 := Lib.hid s2
    have HL := Lib.hid (show ps.length ≤ 2000000 by omega)
    have h1 : (K != K) = false := by simp
    clear s1 s2
    have HTP := Lib.hid (fun w => toPrint_any p t q b d l w)
    have HTD := Lib.hid (fun (w' : World) (hb : Below w.heap.size w w') => toDamageS_any A n cp fs w' w.heap.size (HR.out.below hb) hb.size (by omega))
    have HX0 : Hid (TlA w (.cells #[.int .i64 p, .int .i64 t, .int .i64 q, .int .i64 b, .int .i64 d, .int .i64 l] 46 (0, 0)) (w.alloc (.cells #[.int .i64 p, .int .i64 t, .int .i64 q, .int .i64 b, .int .i64 d, .int .i64 l] 46))) := Lib.hid ⟨(Below.refl _ _).alloc (Nat.le_refl _) _, heap_alloc_new _ _⟩
    go_enter Try.func6, Try.ntmps6
    go_upto_region 5 with (go_at_call 17; refine (szDamageS_ok _ _ _ 1048576 _ hbig (by omega)).mono ?_; rintro e w' ⟨rfl, rfl⟩)
    generalize w.alloc (.cells #[.int .i64 p, .int .i64 t, .int .i64 q, .int .i64 b, .int .i64 d, .int .i64 l] 46) = w0 at *
    obtain ⟨y0, y1, y2, y3, y4, y5⟩ := HX0.out.six
    have hz0 := lt_of_block HX0.out.kp
    go_region_held3 (fun w' => w'.cell? ⟨w.heap.size, 0, none⟩ = some (.int .i64 p) ∧ w'.cell? ⟨w.heap.size, 1, none⟩ = some (.int .i64 t) ∧ w'.cell? ⟨w.heap.size, 2, none⟩ = some (.int .i64 q) ∧ w'.cell? ⟨w.heap.size, 3, none⟩ = some (.int .i64 b) ∧ w'.cell? ⟨w.heap.size, 4, none⟩ = some (.int .i64 d) ∧ w'.cell? ⟨w.heap.size, 5, none⟩ = some (.int .i64 l))
      (first | exact HX3.out.six | exact HX2.out.six | exact HX1.out.six | exact HX0.out.six | go_keep)
      (first
        | (go_at_call 19; with_reducible refine (HTD.out _ (HX0.out.bl.trans (by (repeat (first | (with_reducible assumption) | (with_reducible exact Below.refl _ _) | (with_reducible refine below_drewN' ?_ _) | (with_reducible refine Below.drew ?_) | ((with_reducible refine Below.alloc ?_ ?_ _); rotate_left; focus (first | (simp; done) | (simp; omega) | omega)) | ((with_reducible refine Below.setCell ?_ ?_ _); rotate_left; focus (first | (simp; done) | (simp; omega) | omega))))))).mono ?_; rintro e1 w1 ⟨v1, rfl, ho1, hb1⟩; have HX1 := Lib.hid ((HX0.out.below (by (repeat (first | (with_reducible assumption) | (with_reducible exact Below.refl _ _) | (with_reducible refine below_drewN' ?_ _) | (with_reducible refine Below.drew ?_) | ((with_reducible refine Below.alloc ?_ ?_ _); rotate_left; focus (first | (simp; done) | (simp; omega) | omega)) | ((with_reducible refine Below.setCell ?_ ?_ _); rotate_left; focus (first | (simp; done) | (simp; omega) | omega)))))).below hb1); obtain ⟨A1, c1, rfl⟩ := ho1.shape; have HR1 := Lib.hid ho1.ri; have hbb1 : Below w0.heap.size w0 w1 := below_then (by (repeat (first | (with_reducible assumption) | (with_reducible exact Below.refl _ _) | (with_reducible refine below_drewN' ?_ _) | (with_reducible refine Below.drew ?_) | ((with_reducible refine Below.alloc ?_ ?_ _); rotate_left; focus (first | (simp; done) | (simp; omega) | omega)) | ((with_reducible refine Below.setCell ?_ ?_ _); rotate_left; focus (first | (simp; done) | (simp; omega) | omega))))) (by first | omega | (simp; done) | (simp; omega)) hb1; clear ho1 hb1)
        | (go_at_call 20; with_reducible refine (HTP.out _).mono ?_; rintro e2 w2 ⟨rfl, hb2⟩; have HX2 := Lib.hid (HX1.out.below hb2))
        | (go_at_call 18; with_reducible refine (S1.out _ _ _ _ (HR1.out.below hb2) hb2.size).mono ?_; rintro e3 w3 ⟨v3, rfl, ho3, hb3⟩; have HX3 := Lib.hid (HX2.out.below hb3)))

    have HR3 := Lib.hid (fun k hk => ((World.ownsRow.lt ho3) k hk).2)
    have HO3 := Lib.hid ho3
    have hl2 := HX2.out.bl.size
    have hl2' := lt_of_block HX2.out.kp
    have hs3 := hb3.size
    clear y0 y1 y2 y3 y4 y5 hb2 hb3 ho3 HX0 HX1 hz0 HR1
    go_wp2_with fail
    go_at_call 19
    with_reducible refine (HTD.out _ HX3.out.bl).mono ?_
    rintro e4 w4 ⟨v4, rfl, ho4, hb4⟩
    obtain ⟨A4, c4, rfl⟩ := ho4.shape
    have HX4 := Lib.hid (HX3.out.below hb4)
    have HO34 := Lib.hid (HO3.out.keep hb4)
    have HR4 := Lib.hid ho4.ri
    have HRX := Lib.hid (fun k hk => ((World.ownsRow.lt ho4) k hk).2)
    have HO4 := Lib.hid ho4
    have hs4 := hb4.size
    clear ho4 hb4
    obtain ⟨y0, y1, y2, y3, y4, y5⟩ := HX4.out.six
    go_wp2_with fail
    go_at_call 20
    with_reducible refine (HTP.out _).mono ?_
    rintro e5 w5 ⟨rfl, hb5⟩
    have HX5 := Lib.hid (HX4.out.below hb5)
    have HO35 := Lib.hid (HO34.out.keep hb5)
    have HO5 := Lib.hid (HO4.out.keep hb5)
    have HR5 := Lib.hid (HR4.out.below hb5)
    have hs5 := hb5.size
    clear y0 y1 y2 y3 y4 y5 hb5
    go_wp2_with fail
    go_at_call 21
    with_reducible refine (S2.out _ _ _ _ HR5.out hs5).mono ?_
    rintro e6 w6 ⟨v6, rfl, ho6, hb6⟩
    have HT6 : Hid (TlB w (.cells #[.int .i64 p, .int .i64 t, .int .i64 q, .int .i64 b, .int .i64 d, .int .i64 l] 46 (0, 0)) w2.heap.size w3.heap.size w5.heap.size v3 ps (.slice A4 n c4) n fs v6 ps w6) := Lib.hid ⟨HX5.out.below hb6, ⟨hl2', by omega, by omega, hb6.size⟩, HO35.out.keep hb6, HR3.out, HO5.out.keep hb6, fun k hk => by have := HRX.out k hk; omega, ho6⟩
    clear ho6 hb6 HX2 HX3 HX4 HX5 HO3 HO34 HO35 HO4 HO5 HR3 HR4 HR5 HRX
    go_wp2_with fail
    go_at_call 22
    with_reducible refine (eqPlaceS_same v6 v3 ps _ _ _ HT6.out.o2 HT6.out.o1 HL.out).mono ?_
    rintro e7 w7 ⟨rfl, hb7⟩
    have HT7 := Lib.hid (HT6.out.below hb7)
    clear hb7 HT6
    go_wp2_with fail
    go_at_call 19
    with_reducible refine (HTD.out _ HT7.out.a.bl).mono ?_
    rintro e8 w8 ⟨v8, rfl, ho8, hb8⟩
    have HT8 := Lib.hid (HT7.out.below hb8)
    have HO8 := Lib.hid ho8
    clear ho8 hb8 HT7
    go_wp2_with fail
    go_at_call 23
    with_reducible refine (eqDamageS_same (.slice A4 n c4) v8 n fs _ _ _ HT8.out.ox HO8.out (by omega)).mono ?_
    rintro e9 w9 ⟨rfl, hb9⟩
    have HT9 := Lib.hid (HT8.out.below hb9)
    clear hb9 HT8 HO8
    go_wp2_with fail
    go_at_call 24
    with_reducible refine (markDamageS_any (.slice A4 n c4) n fs 1 _ _ HT9.out.ox (by omega) (by omega) (by omega)).mono ?_
    rintro e10 w10 ⟨rfl, ho10, hg10⟩
    have HT10 := Lib.hid (HT9.out.markx hg10 ho10)
    clear ho10 hg10 HT9
    have h4 : ¬ (1 + 6 * (n : Int)) < 0 := by omega
    go_wp2_with fail
    go_at_call 22
    with_reducible refine (eqPlaceS_same v6 v3 ps _ _ _ HT10.out.o2 HT10.out.o1 HL.out).mono ?_
    rintro e11 w11 ⟨rfl, hb11⟩
    have HT11 := Lib.hid (HT10.out.below hb11)
    clear hb11 HT10
    have h3 : ((1 + 2 * (ps.length : Int)) != (1 + 2 * (ps.length : Int))) = false := by simp
    have h5 : ¬ (1 + 2 * (ps.length : Int)) < 0 := by omega
    go_wp2_with fail
    go_at_call 25
    with_reducible refine (markPlaceS_any v6 ps 1 _ _ HT11.out.o2 HL.out (by omega) (by omega)).mono ?_
    rintro e12 w12 ⟨rfl, ho12, hg12⟩
    have HT12 := Lib.hid (HT11.out.mark2 hg12 ho12)
    clear ho12 hg12 HT11
    go_wp2_with fail
    go_at_call 26
    with_reducible refine (heldPlaceS_any v6 ps.length 1 _ _ HT12.out.o2 HL.out (by omega) (by omega)).mono ?_
    rintro e13 w13 ⟨rfl, rfl⟩
    have HX12 := Lib.hid HT12.out.a
    obtain ⟨y0, y1, y2, y3, y4, y5⟩ := HX12.out.six
    go_upto_region 24 with fail
    have hz12 := lt_of_block HX12.out.kp
    go_region_held3 (fun w' => w'.cell? ⟨w.heap.size, 0, none⟩ = some (.int .i64 p) ∧ w'.cell? ⟨w.heap.size, 1, none⟩ = some (.int .i64 t) ∧ w'.cell? ⟨w.heap.size, 2, none⟩ = some (.int .i64 q) ∧ w'.cell? ⟨w.heap.size, 3, none⟩ = some (.int .i64 b) ∧ w'.cell? ⟨w.heap.size, 4, none⟩ = some (.int .i64 d) ∧ w'.cell? ⟨w.heap.size, 5, none⟩ = some (.int .i64 l))
      (first | exact HX15.out.six | exact HX14.out.six | exact HX13.out.six | exact HX12.out.six | go_keep)
      (first
        | (go_at_call 19; with_reducible refine (HTD.out _ (HX12.out.bl.trans (by (repeat (first | (with_reducible assumption) | (with_reducible exact Below.refl _ _) | (with_reducible refine below_drewN' ?_ _) | (with_reducible refine Below.drew ?_) | ((with_reducible refine Below.alloc ?_ ?_ _); rotate_left; focus (first | (simp; done) | (simp; omega) | omega)) | ((with_reducible refine Below.setCell ?_ ?_ _); rotate_left; focus (first | (simp; done) | (simp; omega) | omega))))))).mono ?_; rintro e13 w13 ⟨v13, rfl, ho13, hb13⟩; have HX13 := Lib.hid ((HX12.out.below (by (repeat (first | (with_reducible assumption) | (with_reducible exact Below.refl _ _) | (with_reducible refine below_drewN' ?_ _) | (with_reducible refine Below.drew ?_) | ((with_reducible refine Below.alloc ?_ ?_ _); rotate_left; focus (first | (simp; done) | (simp; omega) | omega)) | ((with_reducible refine Below.setCell ?_ ?_ _); rotate_left; focus (first | (simp; done) | (simp; omega) | omega)))))).below hb13); obtain ⟨A13, c13, rfl⟩ := ho13.shape; have HR13 := Lib.hid ho13.ri; have hbb13 : Below w12.heap.size w12 w13 := below_then (by (repeat (first | (with_reducible assumption) | (with_reducible exact Below.refl _ _) | (with_reducible refine below_drewN' ?_ _) | (with_reducible refine Below.drew ?_) | ((with_reducible refine Below.alloc ?_ ?_ _); rotate_left; focus (first | (simp; done) | (simp; omega) | omega)) | ((with_reducible refine Below.setCell ?_ ?_ _); rotate_left; focus (first | (simp; done) | (simp; omega) | omega))))) (by first | omega | (simp; done) | (simp; omega)) hb13; clear ho13 hb13)
        | (go_at_call 20; with_reducible refine (HTP.out _).mono ?_; rintro e14 w14 ⟨rfl, hb14⟩; have HX14 := Lib.hid (HX13.out.below hb14))
        | (go_at_call 21; with_reducible refine (S2.out _ _ _ _ (HR13.out.below hb14) hb14.size).mono ?_; rintro e15 w15 ⟨v15, rfl, ho15, hb15⟩; have HX15 := Lib.hid (HX14.out.below hb15)))

    have HT15 := Lib.hid (((HT12.out.below hbb13).below hb14).below hb15)
    have HO15 := Lib.hid ho15
    clear y0 y1 y2 y3 y4 y5 hbb13 hb14 hb15 ho15 HX12 HX13 HX14 HX15 hz12 HR13 HT12
    go_wp2_with fail
    go_at_call 22
    with_reducible refine (eqPlaceS_same v15 v3 ps _ _ _ HO15.out HT15.out.o1 HL.out).mono ?_
    rintro e16 w16 ⟨rfl, hb16⟩
    have HT16 := Lib.hid (HT15.out.below hb16)
    clear hb16 HT15
    go_wp2_with fail
    go_at_call 26
    with_reducible refine (heldPlaceS_any v6 ps.length 1 _ _ HT16.out.o2 HL.out (by omega) (by omega)).mono ?_
    rintro e17 w17 ⟨rfl, rfl⟩
    go_wp2_with fail
    go_ret
    exact ⟨rfl, HT16.out.a.bl⟩
  · go_enter Try.func6, Try.ntmps6
    go_wp2_with (go_at_call 17; refine (szDamageS_no _ _ _ 1048576 _ (by omega) hn2).mono ?_; rintro e w' ⟨rfl, rfl⟩)
    go_ret
    exact ⟨rfl, by (repeat (first | (with_reducible assumption) | (with_reducible exact Below.refl _ _) | (with_reducible refine below_drewN' ?_ _) | (with_reducible refine Below.drew ?_) | ((with_reducible refine Below.alloc ?_ ?_ _); rotate_left; focus (first | (simp; done) | (simp; omega) | omega)) | ((with_reducible refine Below.setCell ?_ ?_ _); rotate_left; focus (first | (simp; done) | (simp; omega) | omega))))⟩
set_option maxRecDepth 100000 in
theorem lifted_FnExactTouchedModules (os : Os) (started : os.Started) (H : Type) (enc : TypeId × Value → H) :
    ReturnsInHanded {} Try.checked os 6 .any (Rows.fnExactTouchedModulesSpec.pre6 enc Try.prog Try.f6 Rows.fnExactTouchedModulesRow.domain false) (Rows.fnExactTouchedModulesSpec.post enc Try.prog Try.f6 false true false false) := by
  refine law_lifted (C := Try.checked) (tb := 4) own started (by kernel_rfl) Try.func6
    (ChangeSpec.witness6 (enc := enc) (C := Try.checked) false ⟨#[], #[.slice none 0 0, .agg #[.int .i64 0, .int .i64 0, .int .i64 0, .int .i64 0, .int .i64 0, .int .i64 0], .int .i64 0, .int .i64 0], []⟩ 8 (by kernel_rfl) (by kernel_rfl) (by kernel_rfl) (by kernel_rfl))
    laidOut (by kernel_rfl) rfl rfl Try.underlying4 ?_ ?_
  · intro ds hd
    match ds, hd with
    | [e0, e1, e2, e3], _ => rfl
  · intro W base args ds p hval hA hlt hsz
    have hval1 : ∀ (j : Nat) t v, Try.f6.params[j]? = some t → args[j]? = some v → Value.okWide Try.prog W .any base t v := hval
    have hA1 : DataW.TrodAll enc Try.prog W 0 (fun _ => true) true Try.f6.params.toList args.toList ds p := hA
    have hsz1 : (DataW.weightsEach Try.prog Try.f6.params.toList ds).all (· ≤ reachBytes) = true := hsz
    rw [Try.params6] at hval1 hA1 hsz1
    clear hval hA hsz
    obtain ⟨v0, v1, v2, v3, d0, d1, d2, d3, p0, p1, p2, p3, rfl, rfl, rfl, h0, h1, h2, h3⟩ := trodAll_four hA1
    obtain ⟨A, n, c, fs, rfl, hr, hn⟩ := arg_rows (q := 6) (by decide) Try.underlying44 Try.underlying23 (by kernel_rfl) (fun j hj => by
      rcases (show j = 0 ∨ j = 1 ∨ j = 2 ∨ j = 3 ∨ j = 4 ∨ j = 5 by omega) with rfl | rfl | rfl | rfl | rfl | rfl
      all_goals exact ⟨_, rfl, rfl, by kernel_rfl, by kernel_rfl⟩) (hval1 0 44 v0 rfl rfl) h0
    obtain ⟨xs, hl, rfl, _⟩ := ok_agg_ints (n := 6) (e := 2) Try.underlying46 (by kernel_rfl) (by kernel_rfl) Try.underlying2 (hval1 1 46 v1 rfl rfl)
    obtain ⟨R, rfl, _⟩ := ok_int Try.underlying2 (hval1 2 2 v2 rfl rfl)
    obtain ⟨C, rfl, _⟩ := ok_int Try.underlying2 (hval1 3 2 v3 rfl rfl)
    match xs, hl with
    | [p, t, q, b, d, l], _ => exact lawTouchedModules A n c fs p t q b d l R C W hr hn
theorem holds_FnExactTouchedModules : Rows.FnExactTouchedModulesSaid :=
  OpenClaim.holds_of_wide 6 Try.f6 rfl rfl rfl rfl rfl rfl rfl ⟨rfl, rfl, rfl, rfl, rfl⟩ rfl rfl rfl rfl rfl (by kernel_rfl) Try.func6 (by kernel_rfl)
    (of_decide_eq_true (by kernel_rfl)) (by unfold Func.isWrapper; first | (rw [if_pos (by decide +kernel)]; kernel_rfl) | (rw [if_neg (by decide +kernel)]; exact ⟨rfl, rfl⟩))
    (fun os started H enc _ => lifted_FnExactTouchedModules os started H enc)

end Go.Proofs.Ytffcjmnldmjocaa
