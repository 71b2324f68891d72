/-
  Touched modules: plain facts; what touches a pixel, told by a function value.
-/
import Derived.Test.YtffcjmnldmjocaaC27T
import Derived.Test.YtffcjmnldmjocaaC21
import Derived.Test.YtffcjmnldmjocaaDmg
import Derived.Test.YtffcjmnldmjocaaPlW
namespace Go.Proofs.Ytffcjmnldmjocaa
set_option linter.unusedSimpArgs false
open Go.RowKit

theorem blk6 {w : World} {b t : Nat} {x0 x1 x2 x3 x4 x5 : Value} (h : w.heap[b]? = some (.cells #[x0, x1, x2, x3, x4, x5] t (0, 0))) :
    w.cell? ⟨b, 0, none⟩ = some x0 ∧ w.cell? ⟨b, 1, none⟩ = some x1 ∧ w.cell? ⟨b, 2, none⟩ = some x2 ∧ w.cell? ⟨b, 3, none⟩ = some x3 ∧ w.cell? ⟨b, 4, none⟩ = some x4 ∧ w.cell? ⟨b, 5, none⟩ = some x5 ∧ ∀ k, w.frozen? ⟨b, k, none⟩ = false := by
  refine ⟨?_, ?_, ?_, ?_, ?_, ?_, fun k => ?_⟩ <;> simp [World.cell?, World.frozen?, h]
theorem res6 {w : World} {b t : Nat} {x0 x1 x2 x3 x4 x5 : Value} (h : w.heap[b]? = some (.cells #[x0, x1, x2, x3, x4, x5] t (0, 0))) (y0 y1 y2 y3 y4 y5 : Value) :
    (w |>.setCell ⟨b, 0, none⟩ y0 |>.setCell ⟨b, 1, none⟩ y1 |>.setCell ⟨b, 2, none⟩ y2 |>.setCell ⟨b, 3, none⟩ y3 |>.setCell ⟨b, 4, none⟩ y4 |>.setCell ⟨b, 5, none⟩ y5).heap[b]? = some (.cells #[y0, y1, y2, y3, y4, y5] t (0, 0)) := by
  have h0 := blk3_set (k := 0) (u := y0) h
  have h1 := blk3_set (k := 1) (u := y1) h0
  have h2 := blk3_set (k := 2) (u := y2) h1
  have h3 := blk3_set (k := 3) (u := y3) h2
  have h4 := blk3_set (k := 4) (u := y4) h3
  have h5 := blk3_set (k := 5) (u := y5) h4
  simpa using h5
def locB (fs : List Int) (k : Nat) : Bool := isDamageB (nth fs (k * 6)) (nth fs (k * 6 + 1)) (nth fs (k * 6 + 2)) (nth fs (k * 6 + 3)) (nth fs (k * 6 + 4)) (nth fs (k * 6 + 5)) && (nth fs (k * 6) == 1 || nth fs (k * 6) == 2)
def tchB (fs : List Int) (y x : Int) (k : Nat) : Bool := touchB (nth fs (k * 6)) (nth fs (k * 6 + 1)) (nth fs (k * 6 + 2)) (nth fs (k * 6 + 3)) (nth fs (k * 6 + 4)) y x
def allLoc (fs : List Int) (n : Nat) : Bool := (List.range n).all (locB fs)
def anyT (fs : List Int) (y x : Int) (n : Nat) : Bool := (List.range n).any (tchB fs y x)
theorem anyT_succ (fs : List Int) (y x : Int) (k : Nat) : anyT fs y x (k + 1) = (anyT fs y x k || tchB fs y x k) := by
  unfold anyT; rw [List.range_succ, List.any_append]; simp
theorem anyT_hit {fs : List Int} {y x : Int} {k n : Nat} (hk : k < n) (h : tchB fs y x k = true) : anyT fs y x n = true := by
  unfold anyT; rw [List.any_eq_true]; exact ⟨k, List.mem_range.2 hk, h⟩
theorem allLoc_no {fs : List Int} {k n : Nat} (hk : k < n) (h : locB fs k = false) : allLoc fs n = false := by
  unfold allLoc; rw [List.all_eq_false]; exact ⟨k, List.mem_range.2 hk, by simp [h]⟩
theorem allLoc_at {fs : List Int} {k n : Nat} (h : allLoc fs n = true) (hk : k < n) : locB fs k = true := List.all_eq_true.1 h k (List.mem_range.2 hk)
theorem loc_step {fs : List Int} {k : Nat} (h : ∀ j, j < k → locB fs j = true) (h2 : locB fs k = true) : ∀ j, j < k + 1 → locB fs j = true := by
  intro j hj
  rcases Nat.lt_or_ge j k with h' | h'
  · exact h j h'
  · obtain rfl : j = k := by omega
    exact h2
theorem locB_rg {fs : List Int} {k : Nat} (h : locB fs k = true) : (nth fs (k * 6) = 1 ∨ nth fs (k * 6) = 2) ∧ (0 ≤ nth fs (k * 6 + 1) ∧ nth fs (k * 6 + 1) ≤ 400) ∧ (0 ≤ nth fs (k * 6 + 2) ∧ nth fs (k * 6 + 2) ≤ 400) ∧ (0 ≤ nth fs (k * 6 + 3) ∧ nth fs (k * 6 + 3) ≤ 400) ∧ (0 ≤ nth fs (k * 6 + 4) ∧ nth fs (k * 6 + 4) ≤ 400) := by
  unfold locB at h
  rw [Bool.and_eq_true] at h
  have h2 : nth fs (k * 6) = 1 ∨ nth fs (k * 6) = 2 := by simpa using h.2
  exact ⟨h2, damage_rg h.1 h2⟩
/-- The columns below n of row r that are wanted. -/
def selP (f : Nat → Nat → Bool) (r : Nat) : Nat → List (Int × Int)
  | 0 => []
  | c + 1 => selP f r c ++ (bif f r c then [((r : Int), (c : Int))] else [])
/-- The places of the first n rows. -/
def allP (f : Nat → Nat → Bool) (C : Nat) : Nat → List (Int × Int)
  | 0 => []
  | r + 1 => allP f C r ++ selP f r C
theorem selP_le (f : Nat → Nat → Bool) (r : Nat) : ∀ c, (selP f r c).length ≤ c
  | 0 => by simp [selP]
  | c + 1 => by
    have := selP_le f r c
    unfold selP
    rw [List.length_append]
    cases f r c <;> simp <;> omega
theorem allP_le (f : Nat → Nat → Bool) (C : Nat) : ∀ r, (allP f C r).length ≤ r * C
  | 0 => by simp [allP]
  | r + 1 => by
    have h1 := allP_le f C r
    have h2 := selP_le f r C
    unfold allP
    rw [List.length_append, Nat.add_mul]
    omega
theorem selP_no {f : Nat → Nat → Bool} {r c : Nat} (h : f r c = false) : selP f r (c + 1) = selP f r c := by rw [selP, h]; simp
theorem selP_yes {f : Nat → Nat → Bool} {r c : Nat} (h : f r c = true) : selP f r (c + 1) = selP f r c ++ [((r : Int), (c : Int))] := by rw [selP, h]; simp
theorem psK_0t {r c p t q b d l : Int} (h : psK r c p t q b d l = 0) : prnB p t q b d l = true ∧ (1 ≤ r ∧ r ≤ 400) ∧ (1 ≤ c ∧ c ≤ 400) ∧ rszB ((r + 2 * q) * t) ((c + 2 * q) * p) = true := by
  unfold psK at h
  split at h
  · split at h
    · split at h
      · rename_i h1 h2 h3
        rw [Bool.and_eq_true] at h2
        exact ⟨h1, inR_true h2.1, inR_true h2.2, h3⟩
      · simp at h
    · simp at h
  · simp at h
/-- The middle of a module lies within the print. -/
theorem mid_in {r R q t : Nat} (hr : r < R) (_ht : 1 ≤ t) (h : (R + 2 * q) * t ≤ 400) : (r + q) * t + t / 2 ≤ 400 := by
  have h1 : (r + q + 1) * t ≤ (R + 2 * q) * t := Nat.mul_le_mul_right t (by omega)
  rw [Nat.add_mul, Nat.one_mul] at h1
  have h2 : t / 2 ≤ t := Nat.div_le_self _ _
  omega
theorem size_in {R C q t p : Nat} (ht : 1 ≤ t) (hp : 1 ≤ p) (h : (R + 2 * q) * t * ((C + 2 * q) * p) ≤ 40000) : R * C ≤ 40000 := by
  have h1 : R ≤ (R + 2 * q) * t := by have := Nat.mul_le_mul_left (R + 2 * q) ht; omega
  have h2 : C ≤ (C + 2 * q) * p := by have := Nat.mul_le_mul_left (C + 2 * q) hp; omega
  have := Nat.mul_le_mul h1 h2
  omega
/-- The middle of module r along one side. -/
def midT (q t r : Nat) : Int := (((r + q) * t + t / 2 : Nat) : Int)
def tmC (R C p t q b d l : Int) (fs : List Int) (n : Nat) : Int := if psK R C p t q b d l = 0 then (if n ≤ 20 then (bif allLoc fs n then 0 else 5) else 3) else psK R C p t q b d l
def tmL (R C p t q b d l : Int) (fs : List Int) (n : Nat) : List (Int × Int) := if tmC R C p t q b d l fs n = 0 then allP (fun r c => anyT fs (midT q.toNat t.toNat r) (midT q.toNat p.toNat c) n) C.toNat R.toNat else []
theorem tmL_le (R C p t q b d l : Int) (fs : List Int) (n : Nat) : (tmL R C p t q b d l fs n).length ≤ 40000 := by
  unfold tmL
  split
  · rename_i h
    unfold tmC at h
    split at h
    · rename_i hk
      obtain ⟨hp, h1, h2, h3⟩ := psK_0t hk
      obtain ⟨⟨p1, p2⟩, ⟨t1, t2⟩, ⟨q1, q2⟩, -⟩ := prnB_true hp
      obtain ⟨-, -, h4⟩ := rszB_true h3
      obtain ⟨R, rfl⟩ := Int.eq_ofNat_of_zero_le (show 0 ≤ R by omega)
      obtain ⟨C, rfl⟩ := Int.eq_ofNat_of_zero_le (show 0 ≤ C by omega)
      obtain ⟨p, rfl⟩ := Int.eq_ofNat_of_zero_le (show 0 ≤ p by omega)
      obtain ⟨t, rfl⟩ := Int.eq_ofNat_of_zero_le (show 0 ≤ t by omega)
      obtain ⟨q, rfl⟩ := Int.eq_ofNat_of_zero_le (show 0 ≤ q by omega)
      have h5 : (R + 2 * q) * t * ((C + 2 * q) * p) ≤ 40000 := by
        have e : ((R : Int) + 2 * q) * t * (((C : Int) + 2 * q) * p) = (((R + 2 * q) * t * ((C + 2 * q) * p) : Nat) : Int) := by push_cast; rfl
        rw [e] at h4
        omega
      have h6 := size_in (by omega) (by omega) h5
      have h7 := allP_le (fun r c => anyT fs (midT (q : Int).toNat (t : Int).toNat r) (midT (q : Int).toNat (p : Int).toNat c) n) (C : Int).toNat (R : Int).toNat
      simp only [Int.toNat_natCast] at h7 ⊢
      omega
    · rename_i hk
      exact absurd h hk
  · simp
theorem gen_worldT {P Q : World → Prop} {W : World} (h : Q W) (k : ∀ W', Q W' → P W') : P W := k W h
/-- What is kept while the modules are looked at: the block of the print, the owned slice v of the places ps. -/
structure TmP (w0 : World) (Bo : Nat) (op : Obj) (v : Value) (ps : List (Int × Int)) (W : World) : Prop where
  bl : Below w0.heap.size w0 W
  lo : w0.heap.size < Bo ∧ Bo ≤ W.heap.size
  kp : W.heap[w0.heap.size]? = some op
  own : OwnP W Bo v ps
theorem TmP.below {w0 W W' : World} {Bo : Nat} {op : Obj} {v : Value} {ps : List (Int × Int)} (h : TmP w0 Bo op v ps W) (hb : Below W.heap.size W W') : TmP w0 Bo op v ps W' := by
  obtain ⟨bl, lo, kp, own⟩ := h
  have hs := hb.size
  exact ⟨bl.trans (hb.mono (by omega)), ⟨lo.1, by omega⟩, blk_below kp hb (by omega), own.keep hb⟩
theorem TmP.grow {w0 W W' : World} {Bo : Nat} {op o : Obj} {v v' : Value} {ps qs : List (Int × Int)} (h : TmP w0 Bo op v ps W) (hg : (W.alloc o).grownBy W' v.ownBlock) (ho : OwnP W' Bo v' qs) : TmP w0 Bo op v' qs W' := by
  obtain ⟨bl, lo, kp, own⟩ := h
  have hs := hg.size
  rw [World.size_alloc] at hs
  refine ⟨(bl.alloc (by omega) o).grown hg (by rw [World.size_alloc]; omega) (fun k hk => ?_), ⟨lo.1, by omega⟩, ?_, ho⟩
  · have := own.rows k hk; omega
  · exact (hg.block _ (by rw [World.size_alloc]; omega) (fun e => by have := own.rows _ e.symm; omega)).trans (blk_alloc kp (by omega))
theorem TmP.to {w0 W : World} {Bo : Nat} {op : Obj} {v : Value} {ps qs : List (Int × Int)} (h : TmP w0 Bo op v ps W) (e : ps = qs) : TmP w0 Bo op v qs W := e ▸ h
/-- What touches a pixel, as a function value. -/
def fnV (k r c t v g : Int) : Value := if k = 1 then .func (.func 46) #[.agg #[.int .i64 k, .int .i64 r, .int .i64 c, .int .i64 t, .int .i64 v, .int .i64 g]] #[] else .func (.func 47) #[.agg #[.int .i64 k, .int .i64 r, .int .i64 c, .int .i64 t, .int .i64 v, .int .i64 g]] #[]
set_option maxHeartbeats 1000000 in
theorem touching_no (k r c t v g : Int) (w : World) (h : (isDamageB k r c t v g && (k == 1 || k == 2)) = false) :
    Calls Try.prog 35 #[.agg #[.int .i64 k, .int .i64 r, .int .i64 c, .int .i64 t, .int .i64 v, .int .i64 g]] w fun e w' => e = .returned (.tuple #[.nilFunc, .bool false]) ∧ Below w.heap.size w w' := by
  have HD := Lib.hid (fun w => IsDamage_any k r c t v g w)
  cases hd : isDamageB k r c t v g
  · rw [hd] at HD
    clear h hd
    go_enter Try.func35, Try.ntmps35
    go_wp2_with (go_at_call 9; with_reducible refine (HD.out _).mono ?_; rintro e1 w1 ⟨rfl, hb1⟩; obtain ⟨hc1, hf1⟩ := bcell hb1; have hB1 : Below w.heap.size w w1 := (below_then (by first | (go_grown; done) | (repeat (first | (with_reducible assumption) | (with_reducible exact Below.refl _ _) | (with_reducible refine below_drewN' ?_ _) | (with_reducible refine Below.drew ?_) | ((with_reducible refine Below.alloc ?_ ?_ _); rotate_left; focus (first | (simp; done) | (simp; omega) | omega)) | ((with_reducible refine Below.setCell ?_ ?_ _); rotate_left; focus (first | (simp; done) | (simp; omega) | omega))))) (by first | omega | (simp; done) | (simp; omega)) hb1); have hz1a : w.heap.size < w1.heap.size := (by have := hb1.size; first | omega | (simp at this; omega)))
    go_returns
    exact ⟨rfl, by (repeat (first | (with_reducible assumption) | (with_reducible exact Below.refl _ _) | (with_reducible refine below_drewN' ?_ _) | (with_reducible refine Below.drew ?_) | ((with_reducible refine Below.alloc ?_ ?_ _); rotate_left; focus (first | (simp; done) | (simp; omega) | omega)) | ((with_reducible refine Below.setCell ?_ ?_ _); rotate_left; focus (first | (simp; done) | (simp; omega) | omega))))⟩
  · rw [hd] at HD h
    have h1 : (k == 1) = false := by cases e : (k == 1) <;> simp_all
    have h2 : (k == 2) = false := by cases e : (k == 2) <;> simp_all
    clear h hd
    go_enter Try.func35, Try.ntmps35
    go_wp2_with (go_at_call 9; with_reducible refine (HD.out _).mono ?_; rintro e1 w1 ⟨rfl, hb1⟩; obtain ⟨hc1, hf1⟩ := bcell hb1; have hB1 : Below w.heap.size w w1 := (below_then (by first | (go_grown; done) | (repeat (first | (with_reducible assumption) | (with_reducible exact Below.refl _ _) | (with_reducible refine below_drewN' ?_ _) | (with_reducible refine Below.drew ?_) | ((with_reducible refine Below.alloc ?_ ?_ _); rotate_left; focus (first | (simp; done) | (simp; omega) | omega)) | ((with_reducible refine Below.setCell ?_ ?_ _); rotate_left; focus (first | (simp; done) | (simp; omega) | omega))))) (by first | omega | (simp; done) | (simp; omega)) hb1); have hz1a : w.heap.size < w1.heap.size := (by have := hb1.size; first | omega | (simp at this; omega)))
    go_returns
    exact ⟨rfl, by (repeat (first | (with_reducible assumption) | (with_reducible exact Below.refl _ _) | (with_reducible refine below_drewN' ?_ _) | (with_reducible refine Below.drew ?_) | ((with_reducible refine Below.alloc ?_ ?_ _); rotate_left; focus (first | (simp; done) | (simp; omega) | omega)) | ((with_reducible refine Below.setCell ?_ ?_ _); rotate_left; focus (first | (simp; done) | (simp; omega) | omega))))⟩
set_option maxHeartbeats 1000000 in
theorem touching_yes (k r c t v g : Int) (w : World) (h : (isDamageB k r c t v g && (k == 1 || k == 2)) = true) :
    Calls Try.prog 35 #[.agg #[.int .i64 k, .int .i64 r, .int .i64 c, .int .i64 t, .int .i64 v, .int .i64 g]] w fun e w' => e = .returned (.tuple #[fnV k r c t v g, .bool true]) ∧ Below w.heap.size w w' := by
  have HD := Lib.hid (fun w => IsDamage_any k r c t v g w)
  rw [Bool.and_eq_true] at h
  rw [h.1] at HD
  have hk : k = 1 ∨ k = 2 := by simpa using h.2
  clear h
  rcases hk with rfl | rfl
  · go_enter Try.func35, Try.ntmps35
    go_wp2_with (go_at_call 9; with_reducible refine (HD.out _).mono ?_; rintro e1 w1 ⟨rfl, hb1⟩; obtain ⟨hc1, hf1⟩ := bcell hb1; have hB1 : Below w.heap.size w w1 := (below_then (by first | (go_grown; done) | (repeat (first | (with_reducible assumption) | (with_reducible exact Below.refl _ _) | (with_reducible refine below_drewN' ?_ _) | (with_reducible refine Below.drew ?_) | ((with_reducible refine Below.alloc ?_ ?_ _); rotate_left; focus (first | (simp; done) | (simp; omega) | omega)) | ((with_reducible refine Below.setCell ?_ ?_ _); rotate_left; focus (first | (simp; done) | (simp; omega) | omega))))) (by first | omega | (simp; done) | (simp; omega)) hb1); have hz1a : w.heap.size < w1.heap.size := (by have := hb1.size; first | omega | (simp at this; omega)))
    go_returns
    exact ⟨rfl, by (repeat (first | (with_reducible assumption) | (with_reducible exact Below.refl _ _) | (with_reducible refine below_drewN' ?_ _) | (with_reducible refine Below.drew ?_) | ((with_reducible refine Below.alloc ?_ ?_ _); rotate_left; focus (first | (simp; done) | (simp; omega) | omega)) | ((with_reducible refine Below.setCell ?_ ?_ _); rotate_left; focus (first | (simp; done) | (simp; omega) | omega))))⟩
  · go_enter Try.func35, Try.ntmps35
    go_wp2_with (go_at_call 9; with_reducible refine (HD.out _).mono ?_; rintro e1 w1 ⟨rfl, hb1⟩; obtain ⟨hc1, hf1⟩ := bcell hb1; have hB1 : Below w.heap.size w w1 := (below_then (by first | (go_grown; done) | (repeat (first | (with_reducible assumption) | (with_reducible exact Below.refl _ _) | (with_reducible refine below_drewN' ?_ _) | (with_reducible refine Below.drew ?_) | ((with_reducible refine Below.alloc ?_ ?_ _); rotate_left; focus (first | (simp; done) | (simp; omega) | omega)) | ((with_reducible refine Below.setCell ?_ ?_ _); rotate_left; focus (first | (simp; done) | (simp; omega) | omega))))) (by first | omega | (simp; done) | (simp; omega)) hb1); have hz1a : w.heap.size < w1.heap.size := (by have := hb1.size; first | omega | (simp at this; omega)))
    go_returns
    exact ⟨rfl, by (repeat (first | (with_reducible assumption) | (with_reducible exact Below.refl _ _) | (with_reducible refine below_drewN' ?_ _) | (with_reducible refine Below.drew ?_) | ((with_reducible refine Below.alloc ?_ ?_ _); rotate_left; focus (first | (simp; done) | (simp; omega) | omega)) | ((with_reducible refine Below.setCell ?_ ?_ _); rotate_left; focus (first | (simp; done) | (simp; omega) | omega))))⟩
end Go.Proofs.Ytffcjmnldmjocaa
