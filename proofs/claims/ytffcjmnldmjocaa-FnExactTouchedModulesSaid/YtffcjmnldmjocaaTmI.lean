/-
  Touched modules, the program. Printed by gen/tmi.py.
-/
import Derived.Test.YtffcjmnldmjocaaTmS
namespace Go.Proofs.Ytffcjmnldmjocaa
set_option linter.unusedSimpArgs false
set_option linter.unusedVariables false
open Go.RowKit

def fnK (fs : List Int) (k : Nat) : Value := fnV (nth fs (k * 6)) (nth fs (k * 6 + 1)) (nth fs (k * 6 + 2)) (nth fs (k * 6 + 3)) (nth fs (k * 6 + 4)) (nth fs (k * 6 + 5))
def fnL (fs : List Int) (n : Nat) : List Value := (List.range n).map (fnK fs)
theorem fnL_len (fs : List Int) (n : Nat) : (fnL fs n).length = n := by simp [fnL]
theorem fnL_succ (fs : List Int) (n : Nat) : fnL fs (n + 1) = fnL fs n ++ [fnK fs n] := by simp [fnL, List.range_succ]
/-- The slice value v owns the functions of the first n damages. -/
def OwnFn (w : World) (B : Nat) (v : Value) (n : Nat) (fs : List Int) : Prop := w.ownsRow B 70 1 v n (fnL fs n)
theorem info_fns : (Try.prog.info? 70).map (fun i => (i.zero, i.size, i.bytes)) = some (some .nilFunc, 1, 8) := by kernel_rfl
theorem OwnFn.keep {w w' : World} {B : Nat} {v : Value} {n : Nat} {fs : List Int} (h : OwnFn w B v n fs) (hb : Below w.heap.size w w') : OwnFn w' B v n fs := by
  refine ⟨h.1, ?_⟩
  rcases h.2 with h' | ⟨g, cap, cur, rfl, hB, hg, hr⟩
  · exact .inl h'
  · exact .inr ⟨g, cap, cur, rfl, hB, (hb.block g (lt_of_block hg)).trans hg, hr⟩
theorem OwnFn.snoc {w : World} {B : Nat} {v : Value} {n : Nat} {fs : List Int} (h : w.ownsRow B 70 1 v (n + 1) (fnL fs n ++ [fnK fs n])) : OwnFn w B v (n + 1) fs := by
  unfold OwnFn; rw [fnL_succ]; exact h
theorem fnV_is (k r c t v g : Int) : ∃ fn : FuncId, fnV k r c t v g = .func (.func fn) #[.agg #[.int .i64 k, .int .i64 r, .int .i64 c, .int .i64 t, .int .i64 v, .int .i64 g]] #[] := by
  unfold fnV
  split
  · exact ⟨_, rfl⟩
  · exact ⟨_, rfl⟩
theorem OwnFn.look {w : World} {B : Nat} {v : Value} {n : Nat} {fs : List Int} (h : OwnFn w B v n fs) : ∃ A c, v = .slice A n c ∧ ∀ j, j < n → ∃ g, A = some ⟨g, 0, none⟩ ∧ g < w.heap.size ∧ w.cell? ⟨g, j, none⟩ = some (fnK fs j) := by
  rcases h.2 with ⟨rfl, h0⟩ | ⟨g, cap, cur, rfl, hB, hg, hr⟩
  · exact ⟨none, 0, by rw [h0], fun j hj => by omega⟩
  · have hf : w.ownsRow B 70 1 (.slice (some ⟨g, 0, none⟩) n cap) n (fnL fs n) := h
    refine ⟨_, cap, rfl, fun j hj => ⟨g, rfl, lt_of_block hg, ?_⟩⟩
    rw [hf.cellAt j (by omega)]
    simp [fnL, hj]
theorem fnK_1 {fs : List Int} {k : Nat} (h : nth fs (k * 6) = 1) : fnK fs k = .func (.func 46) #[.agg #[.int .i64 1, .int .i64 (nth fs (k * 6 + 1)), .int .i64 (nth fs (k * 6 + 2)), .int .i64 (nth fs (k * 6 + 3)), .int .i64 (nth fs (k * 6 + 4)), .int .i64 (nth fs (k * 6 + 5))]] #[] := by unfold fnK fnV; rw [h, if_pos rfl]
theorem fnK_2 {fs : List Int} {k : Nat} (h : nth fs (k * 6) = 2) : fnK fs k = .func (.func 47) #[.agg #[.int .i64 2, .int .i64 (nth fs (k * 6 + 1)), .int .i64 (nth fs (k * 6 + 2)), .int .i64 (nth fs (k * 6 + 3)), .int .i64 (nth fs (k * 6 + 4)), .int .i64 (nth fs (k * 6 + 5))]] #[] := by unfold fnK fnV; rw [h, if_neg (by decide)]
/-- As TmP, and nothing below the places' base has turned since the world wB. -/
structure TmQ (w0 wB : World) (Bo : Nat) (op : Obj) (v : Value) (ps : List (Int × Int)) (W : World) : Prop where
  p : TmP w0 Bo op v ps W
  bo : Below Bo wB W
theorem TmQ.below {w0 wB W W' : World} {Bo : Nat} {op : Obj} {v : Value} {ps : List (Int × Int)} (h : TmQ w0 wB Bo op v ps W) (hb : Below W.heap.size W W') : TmQ w0 wB Bo op v ps W' := ⟨h.p.below hb, h.bo.trans (hb.mono h.p.lo.2)⟩
theorem TmQ.grow {w0 wB W W' : World} {Bo : Nat} {op o : Obj} {v v' : Value} {ps qs : List (Int × Int)} (h : TmQ w0 wB Bo op v ps W) (hg : (W.alloc o).grownBy W' v.ownBlock) (ho : OwnP W' Bo v' qs) : TmQ w0 wB Bo op v' qs W' :=
  ⟨h.p.grow hg ho, (h.bo.alloc h.p.lo.2 o).grown hg (by rw [World.size_alloc]; have := h.p.lo; omega) (fun k hk => h.p.own.rows k hk)⟩
theorem TmQ.to {w0 wB W : World} {Bo : Nat} {op : Obj} {v : Value} {ps qs : List (Int × Int)} (h : TmQ w0 wB Bo op v ps W) (e : ps = qs) : TmQ w0 wB Bo op v qs W := e ▸ h

set_option maxRecDepth 20000 in
set_option maxHeartbeats 8000000 in
theorem TouchedModules_a (R C p t q b d l : Int) (A : Option Addr) (n cp : Nat) (fs : List Int) (w : World) (B : Nat) (hr : RI w B A (n * 6) fs) (hB : B ≤ w.heap.size) (hn : n ≤ 2000000) (K : Int) (hK : psK R C p t q b d l = K) (hK0 : K ≠ 0) :
    Calls Try.prog 21 #[.slice A n cp, .agg #[.int .i64 p, .int .i64 t, .int .i64 q, .int .i64 b, .int .i64 d, .int .i64 l], .int .i64 R, .int .i64 C] w fun e w' => ∃ v, e = .returned (.tuple #[v, .int .i64 (K)]) ∧ OwnP w' w.heap.size v ([]) ∧ Below w.heap.size w w' := by
  have HP := Lib.hid (fun w => PrintSize_any R C p t q b d l w)
  rw [hK] at HP
  have hk : (K != 0) = true := by simpa using hK0
  clear hK hr hK0
  go_enter Try.func21, Try.ntmps21
  go_wp2_with (go_at_call 43; with_reducible refine (HP.out _).mono ?_; rintro e1 w1 ⟨rfl, hb1⟩; obtain ⟨hc1, hf1⟩ := bcell hb1; have hB1 : Below w.heap.size w w1 := (below_then (by first | (go_grown; done) | (repeat (first | (with_reducible assumption) | (with_reducible exact Below.refl _ _) | (with_reducible refine below_drewN' ?_ _) | (with_reducible refine Below.drew ?_) | ((with_reducible refine Below.alloc ?_ ?_ _); rotate_left; focus (first | (simp; done) | (simp; omega) | omega)) | ((with_reducible refine Below.setCell ?_ ?_ _); rotate_left; focus (first | (simp; done) | (simp; omega) | omega))))) (by first | omega | (simp; done) | (simp; omega)) hb1); have hz1a : w.heap.size < w1.heap.size := (by have := hb1.size; first | omega | (simp at this; omega)))
  go_returns
  exact ⟨_, rfl, OwnP.nil, by (repeat (first | (with_reducible assumption) | (with_reducible exact Below.refl _ _) | (with_reducible refine below_drewN' ?_ _) | (with_reducible refine Below.drew ?_) | ((with_reducible refine Below.alloc ?_ ?_ _); rotate_left; focus (first | (simp; done) | (simp; omega) | omega)) | ((with_reducible refine Below.setCell ?_ ?_ _); rotate_left; focus (first | (simp; done) | (simp; omega) | omega))))⟩
set_option maxRecDepth 20000 in
set_option maxHeartbeats 8000000 in
theorem TouchedModules_b (R C p t q b d l : Int) (A : Option Addr) (n cp : Nat) (fs : List Int) (w : World) (B : Nat) (hr : RI w B A (n * 6) fs) (hB : B ≤ w.heap.size) (hn : n ≤ 2000000) (hK : psK R C p t q b d l = 0) (hn2 : ¬ n ≤ 20) :
    Calls Try.prog 21 #[.slice A n cp, .agg #[.int .i64 p, .int .i64 t, .int .i64 q, .int .i64 b, .int .i64 d, .int .i64 l], .int .i64 R, .int .i64 C] w fun e w' => ∃ v, e = .returned (.tuple #[v, .int .i64 (3)]) ∧ OwnP w' w.heap.size v ([]) ∧ Below w.heap.size w w' := by
  have HP := Lib.hid (fun w => PrintSize_any R C p t q b d l w)
  rw [hK] at HP
  have hnn : (20 : Int) < n := by omega
  clear hK hr hn2
  go_enter Try.func21, Try.ntmps21
  go_wp2_with (go_at_call 43; with_reducible refine (HP.out _).mono ?_; rintro e1 w1 ⟨rfl, hb1⟩; obtain ⟨hc1, hf1⟩ := bcell hb1; have hB1 : Below w.heap.size w w1 := (below_then (by first | (go_grown; done) | (repeat (first | (with_reducible assumption) | (with_reducible exact Below.refl _ _) | (with_reducible refine below_drewN' ?_ _) | (with_reducible refine Below.drew ?_) | ((with_reducible refine Below.alloc ?_ ?_ _); rotate_left; focus (first | (simp; done) | (simp; omega) | omega)) | ((with_reducible refine Below.setCell ?_ ?_ _); rotate_left; focus (first | (simp; done) | (simp; omega) | omega))))) (by first | omega | (simp; done) | (simp; omega)) hb1); have hz1a : w.heap.size < w1.heap.size := (by have := hb1.size; first | omega | (simp at this; omega)))
  go_returns
  exact ⟨_, rfl, OwnP.nil, by (repeat (first | (with_reducible assumption) | (with_reducible exact Below.refl _ _) | (with_reducible refine below_drewN' ?_ _) | (with_reducible refine Below.drew ?_) | ((with_reducible refine Below.alloc ?_ ?_ _); rotate_left; focus (first | (simp; done) | (simp; omega) | omega)) | ((with_reducible refine Below.setCell ?_ ?_ _); rotate_left; focus (first | (simp; done) | (simp; omega) | omega))))⟩
set_option maxRecDepth 20000 in
set_option maxHeartbeats 8000000 in
theorem TouchedModules_c (R C p t q b d l : Int) (A : Option Addr) (n cp : Nat) (fs : List Int) (w : World) (B : Nat) (hr : RI w B A (n * 6) fs) (hB : B ≤ w.heap.size) (hn : n ≤ 2000000) (hK : psK R C p t q b d l = 0) (hn2 : n ≤ 20) (hA : allLoc fs n = false) :
    Calls Try.prog 21 #[.slice A n cp, .agg #[.int .i64 p, .int .i64 t, .int .i64 q, .int .i64 b, .int .i64 d, .int .i64 l], .int .i64 R, .int .i64 C] w fun e w' => ∃ v, e = .returned (.tuple #[v, .int .i64 (5)]) ∧ OwnP w' w.heap.size v ([]) ∧ Below w.heap.size w w' := by
  have HP := Lib.hid (fun w => PrintSize_any R C p t q b d l w)
  rw [hK] at HP
  have hnn : ¬ (20 : Int) < n := by omega
  have HA := Lib.hid hA
  have HR := Lib.hid hr
  obtain ⟨iF, hi⟩ := info_own' info_fns
  have HIF := Lib.hid (And.intro iF.bytes.le_refl hi)
  clear hK hr hA hi
  go_enter Try.func21, Try.ntmps21
  go_upto_region 6 with (go_at_call 43; with_reducible refine (HP.out _).mono ?_; rintro e1 w1 ⟨rfl, hb1⟩; obtain ⟨hc1, hf1⟩ := bcell hb1; have hB1 : Below w.heap.size w w1 := (below_then (by first | (go_grown; done) | (repeat (first | (with_reducible assumption) | (with_reducible exact Below.refl _ _) | (with_reducible refine below_drewN' ?_ _) | (with_reducible refine Below.drew ?_) | ((with_reducible refine Below.alloc ?_ ?_ _); rotate_left; focus (first | (simp; done) | (simp; omega) | omega)) | ((with_reducible refine Below.setCell ?_ ?_ _); rotate_left; focus (first | (simp; done) | (simp; omega) | omega))))) (by first | omega | (simp; done) | (simp; omega)) hb1); have hz1a : w.heap.size < w1.heap.size := (by have := hb1.size; first | omega | (simp at this; omega)))
  have HB1 := Lib.hid hB1
  clear hc1 hf1 hb1 hB1
  have HO : Hid (OwnFn (w1.alloc (.cells #[] 70)) w1.heap.size (.slice (some ⟨w1.heap.size, 0, none⟩) 0 0) 0 fs) := Lib.hid (by
    have := World.ownsRow_made (e := 70) (size := 1) (base := w1.heap.size) w1 #[] 0 (Nat.le_refl _) (by unfold maxLen; omega) rfl
    exact this)
  have HBA := Lib.hid ((Below.refl w1.heap.size w1).alloc (Nat.le_refl _) (.cells #[] 70))
  go_wp2_with fail
  generalize w1.alloc (.cells #[] 70) = wa at *
  go_loopw [13, 15, 16, 17, 42] (fun ts _ _ _ i wr => ∃ k : Nat, k ≤ n ∧ i = .int .i64 k ∧ Hid (∀ j, j < k → locB fs j = true) ∧ Hid (OwnFn wr w1.heap.size ts k fs) ∧ Hid (Below w1.heap.size w1 wr)) (fun _ _ _ _ i _ => n - (intOf i).toNat)
  case atStart => exact ⟨0, Nat.zero_le _, rfl, Lib.hid (fun j hj => absurd hj (Nat.not_lt_zero _)), HO, HBA⟩
  case round =>
    clear HO HBA
    obtain ⟨k, hk, rfl, hall, hown, hbel⟩ := hrel
    have hbw := hbel.out
    have hsw := hbw.size
    by_cases hlt : k < n
    · have hki : (k : Int) < n := by omega
      obtain ⟨bd, od, rfl, hbd, hcd⟩ := (HR.out.below ((HB1.out.trans (hbel.out.mono HB1.out.size)).mono hB)).cells (by omega)
      obtain ⟨k0, k1, k2, k3, k4, k5⟩ := ri6 hcd hlt
      have hbz : bd < wr.heap.size := by have := HB1.out.size; omega
      have HFK : Hid (fnV (nth fs (k * 6)) (nth fs (k * 6 + 1)) (nth fs (k * 6 + 2)) (nth fs (k * 6 + 3)) (nth fs (k * 6 + 4)) (nth fs (k * 6 + 5)) = fnK fs k) := Lib.hid rfl
      clear hcd
      cases hl : locB fs k
      · have HTO := Lib.hid (fun w => touching_no (nth fs (k * 6)) (nth fs (k * 6 + 1)) (nth fs (k * 6 + 2)) (nth fs (k * 6 + 3)) (nth fs (k * 6 + 4)) (nth fs (k * 6 + 5)) w hl)
        clear hl
        generalize nth fs (k * 6) = x0 at *
        generalize nth fs (k * 6 + 1) = x1 at *
        generalize nth fs (k * 6 + 2) = x2 at *
        generalize nth fs (k * 6 + 3) = x3 at *
        generalize nth fs (k * 6 + 4) = x4 at *
        generalize nth fs (k * 6 + 5) = x5 at *
        go_wp2_with (go_at_call 35; with_reducible refine (HTO.out _).mono ?_; rintro e2 w2 ⟨rfl, hb2⟩)
        go_returns
        exact ⟨_, rfl, OwnP.nil, (HB1.out.trans (hbw.mono HB1.out.size)).trans ((((Below.refl wr.heap.size wr).alloc (Nat.le_refl _) (.cells #[.int .i64 x0, .int .i64 x1, .int .i64 x2, .int .i64 x3, .int .i64 x4, .int .i64 x5] 25)).trans (hb2.mono (by simp))).mono (by have := HB1.out.size; omega))⟩
      · skip
        have HL := Lib.hid hl
        have HTO := Lib.hid (fun w => touching_yes (nth fs (k * 6)) (nth fs (k * 6 + 1)) (nth fs (k * 6 + 2)) (nth fs (k * 6 + 3)) (nth fs (k * 6 + 4)) (nth fs (k * 6 + 5)) w hl)
        clear hl
        generalize nth fs (k * 6) = x0 at *
        generalize nth fs (k * 6 + 1) = x1 at *
        generalize nth fs (k * 6 + 2) = x2 at *
        generalize nth fs (k * 6 + 3) = x3 at *
        generalize nth fs (k * 6 + 4) = x4 at *
        generalize nth fs (k * 6 + 5) = x5 at *
        go_upto_region 13 with (go_at_call 35; with_reducible refine (HTO.out _).mono ?_; rintro e2 w2 ⟨rfl, hb2⟩)
        have hb3 := ((Below.refl wr.heap.size wr).alloc (Nat.le_refl _) (.cells #[.int .i64 x0, .int .i64 x1, .int .i64 x2, .int .i64 x3, .int .i64 x4, .int .i64 x5] 25)).trans (hb2.mono (by simp))
        have HO2 := Lib.hid (hown.out.keep hb3)
        have HB2 := Lib.hid (hbw.trans (hb3.mono hsw))
        have hs2 := HB2.out.size
        clear hb2 hb3 k0 k1 k2 k3 k4 k5
        obtain ⟨fn, hfv⟩ : ∃ fn : FuncId, fnV x0 x1 x2 x3 x4 x5 = .func (.func fn) #[.agg #[.int .i64 x0, .int .i64 x1, .int .i64 x2, .int .i64 x3, .int .i64 x4, .int .i64 x5]] #[] := fnV_is _ _ _ _ _ _
        rw [hfv] at HFK ⊢
        clear hfv
        go_wp2_with (at_builtin; refine wpList_append_own _ rfl _ _ 84 rfl w1.heap.size 70 iF .nilFunc 1 8 Try.underlying84 HIF.out.2.1 HIF.out.2.2.1 HIF.out.2.2.2.1 HIF.out.2.2.2.2 rfl (by decide) _ _ _ rfl (World.ownsRow.alloc HO2.out _) ⟨w2.heap.size, 0, none⟩ 1 1 [.func (.func fn) #[.agg #[.int .i64 x0, .int .i64 x1, .int .i64 x2, .int .i64 x3, .int .i64 x4, .int .i64 x5]] #[]] rfl rfl (cell_one_new _ _ _) (by intro u hu; simp at hu; subst hu; rfl) (by unfold maxLen; omega) (by omega) (by rw [World.size_alloc]; omega) ?_; intro v3 w3 hown3 hgrow3 _; have HO3 := Lib.hid hown3; have HG3 := Lib.hid hgrow3; clear hown3 hgrow3)
        go_roundw
        case rel => exact ⟨k + 1, by omega, by go_num, Lib.hid (loc_step hall.out HL.out), Lib.hid (OwnFn.snoc (by rw [← HFK.out]; exact HO3.out)), Lib.hid ((HB2.out.alloc hs2 _).grown HG3.out (by rw [World.size_alloc]; omega) (fun q hq => (World.ownsRow.lt hown.out q hq).1))⟩
        case measure => simp [intOf]; omega

    · exact absurd HA.out (by
        obtain rfl : k = n := by omega
        have : allLoc fs k = true := by unfold allLoc; rw [List.all_eq_true]; intro j hj; exact hall.out j (List.mem_range.1 hj)
        rw [this]; simp)
set_option maxRecDepth 20000 in
set_option maxHeartbeats 8000000 in
theorem TouchedModules_d (R C p t q : Nat) (b d l : Int) (A : Option Addr) (n cp : Nat) (fs : List Int) (w : World) (B : Nat) (hr : RI w B A (n * 6) fs) (hB : B ≤ w.heap.size) (hK : psK R C p t q b d l = 0) (hn : n ≤ 20) (hA : allLoc fs n = true) (hR : R ≤ 400) (hC : C ≤ 400) (hRC : R * C ≤ 40000) (hp1 : 1 ≤ p) (hp2 : p ≤ 12) (ht1 : 1 ≤ t) (ht2 : t ≤ 12) (hq : q ≤ 16) (hy : (R + 2 * q) * t ≤ 400) (hx : (C + 2 * q) * p ≤ 400) :
    Calls Try.prog 21 #[.slice A n cp, .agg #[.int .i64 p, .int .i64 t, .int .i64 q, .int .i64 b, .int .i64 d, .int .i64 l], .int .i64 R, .int .i64 C] w fun e w' => ∃ v, e = .returned (.tuple #[v, .int .i64 (0)]) ∧ OwnP w' w.heap.size v (allP (fun r c => anyT fs (midT q t r) (midT q p c) n) C R) ∧ Below w.heap.size w w' := by
  obtain ⟨F, hF⟩ : ∃ F, (fun r c => anyT fs (midT q t r) (midT q p c) n) = F := ⟨_, rfl⟩
  rw [hF]
  have HF : Hid (∀ r c, F r c = anyT fs (midT q t r) (midT q p c) n) := Lib.hid (fun r c => by rw [← hF])
  clear hF
  have HPS := Lib.hid (fun w => PrintSize_any R C p t q b d l w)
  rw [hK] at HPS
  have hnn : ¬ (20 : Int) < n := by omega
  have HA := Lib.hid hA
  have HR := Lib.hid hr
  obtain ⟨iP, hi⟩ := info_own' info_places
  have HP := Lib.hid (And.intro iP.bytes.le_refl hi)
  obtain ⟨iF, hiF⟩ := info_own' info_fns
  have HIF := Lib.hid (And.intro iF.bytes.le_refl hiF)
  clear hK hr hA hi hiF
  have HY := Lib.hid hy
  have HX := Lib.hid hx
  have HRC := Lib.hid hRC
  clear hy hx hRC
  go_enter Try.func21, Try.ntmps21
  go_upto_region 6 with (go_at_call 43; with_reducible refine (HPS.out _).mono ?_; rintro e1 w1 ⟨rfl, hb1⟩; obtain ⟨hc1, hf1⟩ := bcell hb1; have hB1 : Below w.heap.size w w1 := (below_then (by first | (go_grown; done) | (repeat (first | (with_reducible assumption) | (with_reducible exact Below.refl _ _) | (with_reducible refine below_drewN' ?_ _) | (with_reducible refine Below.drew ?_) | ((with_reducible refine Below.alloc ?_ ?_ _); rotate_left; focus (first | (simp; done) | (simp; omega) | omega)) | ((with_reducible refine Below.setCell ?_ ?_ _); rotate_left; focus (first | (simp; done) | (simp; omega) | omega))))) (by first | omega | (simp; done) | (simp; omega)) hb1); have hz1a : w.heap.size < w1.heap.size := (by have := hb1.size; first | omega | (simp at this; omega)))
  have hh1 := blk_below (heap_alloc_new w (.cells #[.int .i64 (p : Nat), .int .i64 (t : Nat), .int .i64 (q : Nat), .int .i64 b, .int .i64 d, .int .i64 l] 53)) hb1 (by simp)
  have HK1 := Lib.hid hh1
  have HB1 := Lib.hid hB1
  clear hc1 hf1 hb1 hB1 hh1 HPS
  have HO : Hid (OwnFn (w1.alloc (.cells #[] 70)) w1.heap.size (.slice (some ⟨w1.heap.size, 0, none⟩) 0 0) 0 fs) := Lib.hid (by
    have := World.ownsRow_made (e := 70) (size := 1) (base := w1.heap.size) w1 #[] 0 (Nat.le_refl _) (by unfold maxLen; omega) rfl
    exact this)
  have HBA := Lib.hid ((Below.refl w1.heap.size w1).alloc (Nat.le_refl _) (.cells #[] 70))
  go_wp2_with fail
  generalize w1.alloc (.cells #[] 70) = wa at *
  go_loopw [13, 15, 16, 17, 42] (fun ts _ _ _ i wr => ∃ k : Nat, k ≤ n ∧ i = .int .i64 k ∧ Hid (∀ j, j < k → locB fs j = true) ∧ Hid (OwnFn wr w1.heap.size ts k fs) ∧ Hid (Below w1.heap.size w1 wr)) (fun _ _ _ _ i _ => n - (intOf i).toNat)
  case atStart => exact ⟨0, Nat.zero_le _, rfl, Lib.hid (fun j hj => absurd hj (Nat.not_lt_zero _)), HO, HBA⟩
  case round =>
    clear HO HBA
    obtain ⟨k, hk, rfl, hall, hown, hbel⟩ := hrel
    have hbw := hbel.out
    have hsw := hbw.size
    by_cases hlt : k < n
    · have hki : (k : Int) < n := by omega
      obtain ⟨bd, od, rfl, hbd, hcd⟩ := (HR.out.below ((HB1.out.trans (hbel.out.mono HB1.out.size)).mono hB)).cells (by omega)
      obtain ⟨k0, k1, k2, k3, k4, k5⟩ := ri6 hcd hlt
      have hbz : bd < wr.heap.size := by have := HB1.out.size; omega
      have HFK : Hid (fnV (nth fs (k * 6)) (nth fs (k * 6 + 1)) (nth fs (k * 6 + 2)) (nth fs (k * 6 + 3)) (nth fs (k * 6 + 4)) (nth fs (k * 6 + 5)) = fnK fs k) := Lib.hid rfl
      clear hcd
      have hl := allLoc_at HA.out hlt
      have HL := Lib.hid hl
      have HTO := Lib.hid (fun w => touching_yes (nth fs (k * 6)) (nth fs (k * 6 + 1)) (nth fs (k * 6 + 2)) (nth fs (k * 6 + 3)) (nth fs (k * 6 + 4)) (nth fs (k * 6 + 5)) w hl)
      clear hl
      generalize nth fs (k * 6) = x0 at *
      generalize nth fs (k * 6 + 1) = x1 at *
      generalize nth fs (k * 6 + 2) = x2 at *
      generalize nth fs (k * 6 + 3) = x3 at *
      generalize nth fs (k * 6 + 4) = x4 at *
      generalize nth fs (k * 6 + 5) = x5 at *
      go_upto_region 13 with (go_at_call 35; with_reducible refine (HTO.out _).mono ?_; rintro e2 w2 ⟨rfl, hb2⟩)
      have hb3 := ((Below.refl wr.heap.size wr).alloc (Nat.le_refl _) (.cells #[.int .i64 x0, .int .i64 x1, .int .i64 x2, .int .i64 x3, .int .i64 x4, .int .i64 x5] 25)).trans (hb2.mono (by simp))
      have HO2 := Lib.hid (hown.out.keep hb3)
      have HB2 := Lib.hid (hbw.trans (hb3.mono hsw))
      have hs2 := HB2.out.size
      clear hb2 hb3 k0 k1 k2 k3 k4 k5
      obtain ⟨fn, hfv⟩ : ∃ fn : FuncId, fnV x0 x1 x2 x3 x4 x5 = .func (.func fn) #[.agg #[.int .i64 x0, .int .i64 x1, .int .i64 x2, .int .i64 x3, .int .i64 x4, .int .i64 x5]] #[] := fnV_is _ _ _ _ _ _
      rw [hfv] at HFK ⊢
      clear hfv
      go_wp2_with (at_builtin; refine wpList_append_own _ rfl _ _ 84 rfl w1.heap.size 70 iF .nilFunc 1 8 Try.underlying84 HIF.out.2.1 HIF.out.2.2.1 HIF.out.2.2.2.1 HIF.out.2.2.2.2 rfl (by decide) _ _ _ rfl (World.ownsRow.alloc HO2.out _) ⟨w2.heap.size, 0, none⟩ 1 1 [.func (.func fn) #[.agg #[.int .i64 x0, .int .i64 x1, .int .i64 x2, .int .i64 x3, .int .i64 x4, .int .i64 x5]] #[]] rfl rfl (cell_one_new _ _ _) (by intro u hu; simp at hu; subst hu; rfl) (by unfold maxLen; omega) (by omega) (by rw [World.size_alloc]; omega) ?_; intro v3 w3 hown3 hgrow3 _; have HO3 := Lib.hid hown3; have HG3 := Lib.hid hgrow3; clear hown3 hgrow3)
      go_roundw
      case rel => exact ⟨k + 1, by omega, by go_num, Lib.hid (loc_step hall.out HL.out), Lib.hid (OwnFn.snoc (by rw [← HFK.out]; exact HO3.out)), Lib.hid ((HB2.out.alloc hs2 _).grown HG3.out (by rw [World.size_alloc]; omega) (fun q hq => (World.ownsRow.lt hown.out q hq).1))⟩
      case measure => simp [intOf]; omega
    · have hki : ¬ (k : Int) < n := by omega
      obtain rfl : n = k := by omega
      rename World => w2
      obtain ⟨TA, tc, htv, hlook⟩ := hown.out.look
      subst htv
      have HLK := Lib.hid hlook
      have HT : Hid (TmQ w w2 w2.heap.size (.cells #[.int .i64 (p : Nat), .int .i64 (t : Nat), .int .i64 (q : Nat), .int .i64 b, .int .i64 d, .int .i64 l] 53 (0, 0)) (.slice (some ⟨w2.heap.size, 0, none⟩) 0 0) [] (w2.alloc (.cells #[] 83))) := Lib.hid ⟨⟨(HB1.out.trans (hbw.mono HB1.out.size)).alloc (by have := hbw.size; omega) _, ⟨by have := hbw.size; omega, by simp⟩, blk_alloc (blk_below HK1.out hbw hz1a) (by have := hbw.size; omega), OwnP.empty w2 (Nat.le_refl _)⟩, (Below.refl _ _).alloc (Nat.le_refl _) _⟩
      clear hbw hbel HB1 HK1 hlook hown hall
      go_upto_region 16 with fail
      obtain ⟨Bo, hBo⟩ : ∃ x, w2.heap.size = x := ⟨_, rfl⟩
      rw [hBo] at HT HLK ⊢
      generalize w2.alloc (.cells #[] 83) = w3 at *
      clear hBo
      go_wp2_with fail
      go_loopw [18, 19] (fun out i wr => ∃ r : Nat, r ≤ R ∧ i = .int .i64 r ∧ Hid (TmQ w w2 Bo (.cells #[.int .i64 (p : Nat), .int .i64 (t : Nat), .int .i64 (q : Nat), .int .i64 b, .int .i64 d, .int .i64 l] 53 (0, 0)) out (allP F C r) wr)) (fun _ i _ => R - (intOf i).toNat)
      case atStart => exact ⟨0, Nat.zero_le _, rfl, HT⟩
      case round =>
        rename World => wo
        clear hlt hki hk
        obtain ⟨r, hrR, rfl, ht⟩ := hrel
        by_cases hlr : r < R
        · have hri : (r : Int) < R := by omega
          go_wp2_with fail
          go_loopw [18, 20] (fun out i wr => ∃ c : Nat, c ≤ C ∧ i = .int .i64 c ∧ Hid (TmQ w w2 Bo (.cells #[.int .i64 (p : Nat), .int .i64 (t : Nat), .int .i64 (q : Nat), .int .i64 b, .int .i64 d, .int .i64 l] 53 (0, 0)) out (allP F C r ++ selP F r c) wr)) (fun _ i _ => C - (intOf i).toNat)
          case atStart => exact ⟨0, Nat.zero_le _, rfl, Lib.hid (ht.out.to (by simp [selP]))⟩
          case round =>
            rename World => wi
            obtain ⟨c, hcC, rfl, hti⟩ := hrel
            have hlen : (allP F C r ++ selP F r c).length ≤ 40000 := by
              have h1 := allP_le F C r
              have h2 := selP_le F r c
              have h3 := Nat.mul_le_mul_right C hrR
              have h4 := HRC.out
              rw [List.length_append]
              by_cases h5 : r = R
              · omega
              · have h6 := Nat.mul_le_mul_right C (show r + 1 ≤ R by omega)
                rw [Nat.add_mul] at h6
                omega
            have HLN := Lib.hid hlen
            clear hlen
            by_cases hlc : c < C
            · have hci : (c : Int) < C := by omega
              obtain ⟨y0, y1, y2, y3, y4, y5, -⟩ := blk6 hti.out.p.kp
              have hzw : w.heap.size < wi.heap.size := by have := hti.out.p.lo; omega
              have hFv := HF.out r c
              obtain ⟨Y1, hY1⟩ : ∃ s : Nat, r + q = s := ⟨_, rfl⟩
              obtain ⟨Y2, hY2⟩ : ∃ s : Nat, Y1 * t = s := ⟨_, rfl⟩
              obtain ⟨Y3, hY3⟩ : ∃ s : Nat, t / 2 = s := ⟨_, rfl⟩
              obtain ⟨Y4, hY4⟩ : ∃ s : Nat, Y2 + Y3 = s := ⟨_, rfl⟩
              have Ym : midT q t r = (Y4 : Int) := by unfold midT; rw [hY1, hY2, hY3, hY4]
              have Yl : Y4 ≤ 400 := by have h := mid_in (r := r) (by omega) ht1 HY.out; rw [hY1, hY2, hY3, hY4] at h; exact h
              have Yb : Y1 ≤ 500 ∧ Y2 ≤ 400 ∧ Y3 ≤ 12 := by omega
              have Ya : (r : Int) + q = Y1 := by omega
              have Yc : (Y1 : Int) * t = Y2 := by rw [← hY2]; push_cast; rfl
              have Yd : (t : Int) / 2 = Y3 := by omega
              have Ye : (t : Int).tdiv 2 = Y3 := by rw [Int.tdiv_eq_ediv_of_nonneg (by omega)]; exact Yd
              have Yf : (Y2 : Int) + Y3 = Y4 := by omega
              have Yw1 : IntKind.i64.wrap (Y1 : Int) = Y1 := by rw [IntKind.wrap_i64]; omega
              have Yw2 : IntKind.i64.wrap (Y2 : Int) = Y2 := by rw [IntKind.wrap_i64]; omega
              have Yw3 : IntKind.i64.wrap (Y3 : Int) = Y3 := by rw [IntKind.wrap_i64]; omega
              have Yw4 : IntKind.i64.wrap (Y4 : Int) = Y4 := by rw [IntKind.wrap_i64]; omega
              clear hY1 hY2 hY3 hY4
              obtain ⟨X1, hX1⟩ : ∃ s : Nat, c + q = s := ⟨_, rfl⟩
              obtain ⟨X2, hX2⟩ : ∃ s : Nat, X1 * p = s := ⟨_, rfl⟩
              obtain ⟨X3, hX3⟩ : ∃ s : Nat, p / 2 = s := ⟨_, rfl⟩
              obtain ⟨X4, hX4⟩ : ∃ s : Nat, X2 + X3 = s := ⟨_, rfl⟩
              have Xm : midT q p c = (X4 : Int) := by unfold midT; rw [hX1, hX2, hX3, hX4]
              have Xl : X4 ≤ 400 := by have h := mid_in (r := c) (by omega) hp1 HX.out; rw [hX1, hX2, hX3, hX4] at h; exact h
              have Xb : X1 ≤ 500 ∧ X2 ≤ 400 ∧ X3 ≤ 12 := by omega
              have Xa : (c : Int) + q = X1 := by omega
              have Xc : (X1 : Int) * p = X2 := by rw [← hX2]; push_cast; rfl
              have Xd : (p : Int) / 2 = X3 := by omega
              have Xe : (p : Int).tdiv 2 = X3 := by rw [Int.tdiv_eq_ediv_of_nonneg (by omega)]; exact Xd
              have Xf : (X2 : Int) + X3 = X4 := by omega
              have Xw1 : IntKind.i64.wrap (X1 : Int) = X1 := by rw [IntKind.wrap_i64]; omega
              have Xw2 : IntKind.i64.wrap (X2 : Int) = X2 := by rw [IntKind.wrap_i64]; omega
              have Xw3 : IntKind.i64.wrap (X3 : Int) = X3 := by rw [IntKind.wrap_i64]; omega
              have Xw4 : IntKind.i64.wrap (X4 : Int) = X4 := by rw [IntKind.wrap_i64]; omega
              clear hX1 hX2 hX3 hX4

              rw [Ym, Xm] at hFv
              have HFV := Lib.hid hFv
              clear hFv Ym Xm
              go_upto_region 22 with fail
              go_quiet (fail)
              clear Yb Ya Yc Yd Ye Yf Yw1 Yw2 Yw3 Yw4 Xb Xa Xc Xd Xe Xf Xw1 Xw2 Xw3 Xw4 y0 y1 y2 y3 y4 y5
              go_wp2_with fail
              refine gen_worldT (P := fun W' => Code.wp _ _ _ _ W') (Q := fun W' => TmQ w w2 Bo (.cells #[.int .i64 (p : Nat), .int .i64 (t : Nat), .int .i64 (q : Nat), .int .i64 b, .int .i64 d, .int .i64 l] 53 (0, 0)) _ (allP F C r ++ selP F r c) W') (by exact hti.out.below (below_drewN' (Below.refl _ _) _)) ?_
              intro w4 ht4
              have HT4 := Lib.hid ht4
              clear ht4 hti hzw
              go_loopw [18, 93] (fun out i wr => ∃ k : Nat, k ≤ n ∧ i = .int .i64 k ∧ Hid (anyT fs Y4 X4 k = false) ∧ Hid (TmQ w w2 Bo (.cells #[.int .i64 (p : Nat), .int .i64 (t : Nat), .int .i64 (q : Nat), .int .i64 b, .int .i64 d, .int .i64 l] 53 (0, 0)) out (allP F C r ++ selP F r c) wr)) (fun _ i _ => n - (intOf i).toNat)
              case atStart => exact ⟨0, Nat.zero_le _, rfl, Lib.hid rfl, HT4⟩
              case round =>
                rename World => w5
                obtain ⟨k, hk, rfl, hno, HT5⟩ := hrel
                clear HT4
                by_cases hlt : k < n
                · have hki : (k : Int) < n := by omega
                  obtain ⟨gf, rfl, hgz, hgc0⟩ := HLK.out k hlt
                  have hgc := (HT5.out.bo.cell (p := ⟨gf, k, none⟩) hgz).trans hgc0
                  have hgz5 : gf < w5.heap.size := by have := HT5.out.p.lo; omega
                  obtain ⟨lk, l1, l2, l3, l4⟩ := locB_rg (allLoc_at HA.out hlt)
                  clear hgc0
                  rcases lk with lk | lk
                  · skip
                    have HTC := Lib.hid (fun w => blot_touches_any (nth fs (k * 6 + 1)) (nth fs (k * 6 + 2)) (nth fs (k * 6 + 3)) (nth fs (k * 6 + 4)) (nth fs (k * 6 + 5)) Y4 X4 w l1 l2 l3 (by omega) (by omega))
                    have hlb : touchB 1 (nth fs (k * 6 + 1)) (nth fs (k * 6 + 2)) (nth fs (k * 6 + 3)) (nth fs (k * 6 + 4)) Y4 X4 = tchB fs Y4 X4 k := by unfold tchB; rw [lk]
                    rw [hlb] at HTC
                    rw [fnK_1 lk] at hgc
                    clear hlb lk l1 l2 l3 l4
                    generalize nth fs (k * 6 + 1) = x1 at *
                    generalize nth fs (k * 6 + 2) = x2 at *
                    generalize nth fs (k * 6 + 3) = x3 at *
                    generalize nth fs (k * 6 + 4) = x4 at *
                    generalize nth fs (k * 6 + 5) = x5 at *
                    cases hz : tchB fs Y4 X4 k
                    · rw [hz] at HTC
                      have HSU : Hid (anyT fs Y4 X4 (k + 1) = false) := Lib.hid (by rw [anyT_succ, hno.out, hz]; rfl)
                      clear hz
                      go_wp2_with (go_at_call 46; with_reducible refine (HTC.out _).mono ?_; rintro e6 w6 ⟨rfl, hb6⟩)
                      go_roundw
                      case rel => exact ⟨k + 1, by omega, by go_num, HSU, Lib.hid (HT5.out.below hb6)⟩
                      case measure => simp [intOf]; omega
                    · rw [hz] at HTC
                      have HS := Lib.hid (selP_yes (HFV.out.trans (anyT_hit hlt hz)))
                      clear hz
                      go_upto_region 27 with (go_at_call 46; with_reducible refine (HTC.out _).mono ?_; rintro e6 w6 ⟨rfl, hb6⟩; have HT6 := Lib.hid (HT5.out.below hb6))
                      clear hb6
                      have hlo := HT6.out.p.lo
                      go_wp2_with (at_builtin; refine wpList_append_own_at _ rfl _ _ 48 rfl (Bo) 83 iP (.agg #[.int .i64 0, .int .i64 0]) 2 16 Try.underlying48 HP.out.2.1 HP.out.2.2.1 HP.out.2.2.2.1 HP.out.2.2.2.2 rfl (by decide) _ _ _ rfl (OwnP.alloc (HT6.out.p.own) _) ⟨w6.heap.size, 0, none⟩ 1 1 (pc [((r : Int), (c : Int))]) rfl rfl (cells_news _ _ _) (pc_ok _) (own_maxP ((by have := HLN.out; omega)) (by decide)) (own_bytesP ((by have := HLN.out; omega)) (by decide)) (own_base (HT6.out.p.lo.2)) ?_; intro va wa howna hga _ hata; have hoa := OwnP.snoc (qs := [((r : Int), (c : Int))]) howna rfl; clear howna)
                      have HTa := Lib.hid (HT6.out.grow hga hoa)
                      clear hga hata hoa
                      go_roundw
                      case rel => exact ⟨c + 1, by omega, by go_num, Lib.hid (HTa.out.to (by rw [HS.out, List.append_assoc]))⟩
                      case measure => simp [intOf]; omega

                  · skip
                    have HTC := Lib.hid (fun w => scratch_touches_any (nth fs (k * 6 + 1)) (nth fs (k * 6 + 2)) (nth fs (k * 6 + 3)) (nth fs (k * 6 + 4)) (nth fs (k * 6 + 5)) Y4 X4 w l1 l2 l3 l4)
                    have hlb : touchB 2 (nth fs (k * 6 + 1)) (nth fs (k * 6 + 2)) (nth fs (k * 6 + 3)) (nth fs (k * 6 + 4)) Y4 X4 = tchB fs Y4 X4 k := by unfold tchB; rw [lk]
                    rw [hlb] at HTC
                    rw [fnK_2 lk] at hgc
                    clear hlb lk l1 l2 l3 l4
                    generalize nth fs (k * 6 + 1) = x1 at *
                    generalize nth fs (k * 6 + 2) = x2 at *
                    generalize nth fs (k * 6 + 3) = x3 at *
                    generalize nth fs (k * 6 + 4) = x4 at *
                    generalize nth fs (k * 6 + 5) = x5 at *
                    cases hz : tchB fs Y4 X4 k
                    · rw [hz] at HTC
                      have HSU : Hid (anyT fs Y4 X4 (k + 1) = false) := Lib.hid (by rw [anyT_succ, hno.out, hz]; rfl)
                      clear hz
                      go_wp2_with (go_at_call 47; with_reducible refine (HTC.out _).mono ?_; rintro e6 w6 ⟨rfl, hb6⟩)
                      go_roundw
                      case rel => exact ⟨k + 1, by omega, by go_num, HSU, Lib.hid (HT5.out.below hb6)⟩
                      case measure => simp [intOf]; omega
                    · rw [hz] at HTC
                      have HS := Lib.hid (selP_yes (HFV.out.trans (anyT_hit hlt hz)))
                      clear hz
                      go_upto_region 27 with (go_at_call 47; with_reducible refine (HTC.out _).mono ?_; rintro e6 w6 ⟨rfl, hb6⟩; have HT6 := Lib.hid (HT5.out.below hb6))
                      clear hb6
                      have hlo := HT6.out.p.lo
                      go_wp2_with (at_builtin; refine wpList_append_own_at _ rfl _ _ 48 rfl (Bo) 83 iP (.agg #[.int .i64 0, .int .i64 0]) 2 16 Try.underlying48 HP.out.2.1 HP.out.2.2.1 HP.out.2.2.2.1 HP.out.2.2.2.2 rfl (by decide) _ _ _ rfl (OwnP.alloc (HT6.out.p.own) _) ⟨w6.heap.size, 0, none⟩ 1 1 (pc [((r : Int), (c : Int))]) rfl rfl (cells_news _ _ _) (pc_ok _) (own_maxP ((by have := HLN.out; omega)) (by decide)) (own_bytesP ((by have := HLN.out; omega)) (by decide)) (own_base (HT6.out.p.lo.2)) ?_; intro va wa howna hga _ hata; have hoa := OwnP.snoc (qs := [((r : Int), (c : Int))]) howna rfl; clear howna)
                      have HTa := Lib.hid (HT6.out.grow hga hoa)
                      clear hga hata hoa
                      go_roundw
                      case rel => exact ⟨c + 1, by omega, by go_num, Lib.hid (HTa.out.to (by rw [HS.out, List.append_assoc]))⟩
                      case measure => simp [intOf]; omega

                · obtain rfl : n = k := by omega
                  have hki : ¬ (n : Int) < n := by omega
                  have HS := Lib.hid (selP_no (HFV.out.trans hno.out))
                  go_wp2_with fail
                  go_roundw
                  case rel => exact ⟨c + 1, by omega, by go_num, Lib.hid (HT5.out.to (by rw [HS.out]))⟩
                  case measure => simp [intOf]; omega
            · obtain rfl : C = c := by omega
              have hci : ¬ (C : Int) < C := by omega
              go_wp2_with fail
              go_roundw
              case rel => exact ⟨r + 1, by omega, by go_num, hti⟩
              case measure => simp [intOf]; omega
        · obtain rfl : R = r := by omega
          have hri : ¬ (R : Int) < R := by omega
          go_wp2_with fail
          go_returns
          exact ⟨_, rfl, ht.out.p.own.more (by have := ht.out.p.lo; omega), ht.out.p.bl⟩
theorem TouchedModules_any (R C p t q b d l : Int) (A : Option Addr) (n cp : Nat) (fs : List Int) (w : World) (B : Nat) (hr : RI w B A (n * 6) fs) (hB : B ≤ w.heap.size) (hn : n ≤ 2000000) :
    Calls Try.prog 21 #[.slice A n cp, .agg #[.int .i64 p, .int .i64 t, .int .i64 q, .int .i64 b, .int .i64 d, .int .i64 l], .int .i64 R, .int .i64 C] w fun e w' => ∃ v, e = .returned (.tuple #[v, .int .i64 (tmC R C p t q b d l fs n)]) ∧ OwnP w' w.heap.size v (tmL R C p t q b d l fs n) ∧ Below w.heap.size w w' := by
  by_cases hK : psK R C p t q b d l = 0
  · by_cases hn2 : n ≤ 20
    · cases hA : allLoc fs n
      · have e1 : tmC R C p t q b d l fs n = 5 := by unfold tmC; rw [if_pos hK, if_pos hn2, hA]; rfl
        have e2 : tmL R C p t q b d l fs n = [] := by unfold tmL; rw [e1, if_neg (by decide)]
        rw [e1, e2]
        exact TouchedModules_c R C p t q b d l A n cp fs w B hr hB hn hK hn2 hA
      · have e1 : tmC R C p t q b d l fs n = 0 := by unfold tmC; rw [if_pos hK, if_pos hn2, hA]; rfl
        obtain ⟨hp, h1, h2, h3⟩ := psK_0t hK
        obtain ⟨⟨p1, p2⟩, ⟨t1, t2⟩, ⟨q1, q2⟩, -⟩ := prnB_true hp
        obtain ⟨⟨s1, s2⟩, ⟨s3, s4⟩, h4⟩ := rszB_true h3
        obtain ⟨R, rfl⟩ := Int.eq_ofNat_of_zero_le (show 0 ≤ R by omega)
        obtain ⟨C, rfl⟩ := Int.eq_ofNat_of_zero_le (show 0 ≤ C by omega)
        obtain ⟨p, rfl⟩ := Int.eq_ofNat_of_zero_le (show 0 ≤ p by omega)
        obtain ⟨t, rfl⟩ := Int.eq_ofNat_of_zero_le (show 0 ≤ t by omega)
        obtain ⟨q, rfl⟩ := Int.eq_ofNat_of_zero_le (show 0 ≤ q by omega)
        have e2 : tmL R C p t q b d l fs n = allP (fun r c => anyT fs (midT q t r) (midT q p c) n) C R := by unfold tmL; rw [e1, if_pos rfl]; simp only [Int.toNat_natCast]
        rw [e1, e2]
        have a1 : ((R : Int) + 2 * q) * t = (((R + 2 * q) * t : Nat) : Int) := by push_cast; rfl
        have a2 : ((C : Int) + 2 * q) * p = (((C + 2 * q) * p : Nat) : Int) := by push_cast; rfl
        rw [a1] at s1 s2 h4
        rw [a2] at s3 s4 h4
        have s5 : (R + 2 * q) * t ≤ 400 := Int.ofNat_le.1 s2
        have s6 : (C + 2 * q) * p ≤ 400 := Int.ofNat_le.1 s4
        have h5 : (R + 2 * q) * t * ((C + 2 * q) * p) ≤ 40000 := by
          rw [← Int.natCast_mul] at h4
          exact Int.ofNat_le.1 h4
        exact TouchedModules_d R C p t q b d l A n cp fs w B hr hB hK hn2 hA (by omega) (by omega) (size_in (by omega) (by omega) h5) (by omega) (by omega) (by omega) (by omega) (by omega) s5 s6
    · have e1 : tmC R C p t q b d l fs n = 3 := by unfold tmC; rw [if_pos hK, if_neg hn2]
      have e2 : tmL R C p t q b d l fs n = [] := by unfold tmL; rw [e1, if_neg (by decide)]
      rw [e1, e2]
      exact TouchedModules_b R C p t q b d l A n cp fs w B hr hB hn hK hn2
  · have e1 : tmC R C p t q b d l fs n = psK R C p t q b d l := by unfold tmC; rw [if_neg hK]
    have e2 : tmL R C p t q b d l fs n = [] := by unfold tmL; rw [e1, if_neg hK]
    rw [e1, e2]
    exact TouchedModules_a R C p t q b d l A n cp fs w B hr hB hn _ rfl hK
end Go.Proofs.Ytffcjmnldmjocaa
