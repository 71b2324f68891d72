/-
  Contracts of chapter 21: the pixels of a print without bleed; printing a grid, both sides. Printed by gen/c21p.py.
-/
import Derived.Test.YtkipaefhnmfebaaC21
import Derived.Test.YtkipaefhnmfebaaC21Q
import Derived.Test.YtkipaefhnmfebaaRegion
namespace Go.Proofs.Ytkipaefhnmfebaa
set_option linter.unusedSimpArgs false
open Go.RowKit Go.Deep

/-- The pixel of a print without bleed. -/
def pixV (R C : Int) (xs : List Int) (p t q : Nat) (d l : Int) (y x : Nat) : Int := if dkB R C xs (((y / t : Nat) : Int) - (q : Int)) (((x / p : Nat) : Int) - (q : Int)) then d else l
theorem gK_0 (x : Int) : gK 0 x = x := rfl
theorem gK_no {k : Int} (h : k ≠ 0) {x : Int} : gK k x = 0 := by unfold gK; rw [if_neg h]
theorem psK_0 {r c p t q b d l : Int} (h : psK r c p t q b d l = 0) : (1 ≤ r ∧ r ≤ 400) ∧ (1 ≤ c ∧ c ≤ 400) ∧ rszB ((r + 2 * q) * t) ((c + 2 * q) * p) = true := by
  unfold psK at h
  split at h
  · split at h
    · rename_i h2
      simp only [Bool.and_eq_true] at h2
      split at h
      · rename_i h3
        exact ⟨inR_true h2.1, inR_true h2.2, h3⟩
      · simp at h
    · simp at h
  · simp at h
/-- The code, and the pixels, of a printed grid. -/
def prK (R C : Int) (xs : List Int) (p t q d l : Int) : Int := if gridB R C xs then if prnB p t q 0 d l then if posB xs then psK R C p t q 0 d l else 5 else 1 else 1
def prL (R C : Int) (xs : List Int) (p t q d l : Int) : List Int := if prK R C xs p t q d l = 0 then grdL ((R + 2 * q) * t).toNat ((C + 2 * q) * p).toNat (pixV R C xs p.toNat t.toNat q.toNat d l) else []
theorem blk6p {w : World} {b t : Nat} {x0 x1 x2 x3 x4 x5 : Value} (h : w.heap[b]? = some (.cells #[x0, x1, x2, x3, x4, x5] t (0, 0))) :
    w.cell? ⟨b, 0, none⟩ = some x0 ∧ w.cell? ⟨b, 1, none⟩ = some x1 ∧ w.cell? ⟨b, 2, none⟩ = some x2 ∧ w.cell? ⟨b, 3, none⟩ = some x3 ∧ w.cell? ⟨b, 4, none⟩ = some x4 ∧ w.cell? ⟨b, 5, none⟩ = some x5 ∧ ∀ k, w.frozen? ⟨b, k, none⟩ = false := by
  refine ⟨?_, ?_, ?_, ?_, ?_, ?_, fun k => ?_⟩ <;> simp [World.cell?, World.frozen?, h]
/-- Does a list have a number? -/
def hasB (n : Int) (xs : List Int) : Bool := xs.any (· == n)
theorem hasB_hit {n : Int} {xs : List Int} {k : Nat} (hk : k < xs.length) (h : nth xs k = n) : hasB n xs = true := by
  unfold hasB; rw [List.any_eq_true]; exact ⟨_, nth_mem hk, by simp [h]⟩
theorem hasB_take {n : Int} {xs : List Int} {k : Nat} (hk : k < xs.length) : hasB n (xs.take (k + 1)) = (hasB n (xs.take k) || (nth xs k == n)) := by
  rw [take_nth hk]; simp [hasB]

theorem blk11 {w : World} {b t : Nat} {x0 x1 x2 x3 x4 x5 x6 x7 x8 x9 x10 : Value} (h : w.heap[b]? = some (.cells #[x0, x1, x2, x3, x4, x5, x6, x7, x8, x9, x10] t (0, 0))) :
    w.cell? ⟨b, 0, none⟩ = some x0 ∧ w.cell? ⟨b, 1, none⟩ = some x1 ∧ w.cell? ⟨b, 2, none⟩ = some x2 ∧ w.cell? ⟨b, 3, none⟩ = some x3 ∧ w.cell? ⟨b, 4, none⟩ = some x4 ∧ w.cell? ⟨b, 5, none⟩ = some x5 ∧ w.cell? ⟨b, 6, none⟩ = some x6 ∧ w.cell? ⟨b, 7, none⟩ = some x7 ∧ w.cell? ⟨b, 8, none⟩ = some x8 ∧ w.cell? ⟨b, 9, none⟩ = some x9 ∧ w.cell? ⟨b, 10, none⟩ = some x10 ∧ ∀ k, w.frozen? ⟨b, k, none⟩ = false := by
  refine ⟨?_, ?_, ?_, ?_, ?_, ?_, ?_, ?_, ?_, ?_, ?_, fun k => ?_⟩ <;> simp [World.cell?, World.frozen?, h]
theorem res11 {w : World} {b t : Nat} {x0 x1 x2 x3 x4 x5 x6 x7 x8 x9 x10 : Value} (h : w.heap[b]? = some (.cells #[x0, x1, x2, x3, x4, x5, x6, x7, x8, x9, x10] t (0, 0))) (y0 y1 y2 y3 y4 y5 y6 y7 y8 y9 y10 : Value) :
    (w |>.setCell ⟨b, 0, none⟩ y0 |>.setCell ⟨b, 1, none⟩ y1 |>.setCell ⟨b, 2, none⟩ y2 |>.setCell ⟨b, 3, none⟩ y3 |>.setCell ⟨b, 4, none⟩ y4 |>.setCell ⟨b, 5, none⟩ y5 |>.setCell ⟨b, 6, none⟩ y6 |>.setCell ⟨b, 7, none⟩ y7 |>.setCell ⟨b, 8, none⟩ y8 |>.setCell ⟨b, 9, none⟩ y9 |>.setCell ⟨b, 10, none⟩ y10).heap[b]? = some (.cells #[y0, y1, y2, y3, y4, y5, y6, y7, y8, y9, y10] t (0, 0)) := by
  have h0 := blk3_set (k := 0) (u := y0) h
  have h1 := blk3_set (k := 1) (u := y1) h0
  have h2 := blk3_set (k := 2) (u := y2) h1
  have h3 := blk3_set (k := 3) (u := y3) h2
  have h4 := blk3_set (k := 4) (u := y4) h3
  have h5 := blk3_set (k := 5) (u := y5) h4
  have h6 := blk3_set (k := 6) (u := y6) h5
  have h7 := blk3_set (k := 7) (u := y7) h6
  have h8 := blk3_set (k := 8) (u := y8) h7
  have h9 := blk3_set (k := 9) (u := y9) h8
  have h10 := blk3_set (k := 10) (u := y10) h9
  simpa using h10
theorem hasB_pos {xs : List Int} (h : allIn (-1) 1 xs = true) : hasB (-1) xs = !posB xs := by
  unfold hasB posB
  induction xs with
  | nil => rfl
  | cons x xs ih =>
    simp only [allIn, List.all_cons, Bool.and_eq_true] at h
    have h1 := inR_true h.1
    have h2 := ih h.2
    simp only [List.any_cons, List.all_cons, Bool.not_and]
    rw [h2]
    congr 1
    by_cases e : x = -1
    · subst e; rfl
    · have e1 : (x == -1) = false := by simpa using e
      have e2 : decide (0 ≤ x) = true := by simp; omega
      simp [e1, e2, e, eq_comm]
set_option maxHeartbeats 1000000 in
theorem l05Has_any (x : Int) (A : Option Addr) (n cp : Nat) (xs : List Int) (w : World) (B : Nat) (hr : RI w B A n xs) (hn : n ≤ 1000000000000000) :
    Calls Try.prog 83 #[.slice A n cp, .int .i64 x] w fun e w' => e = .returned (.bool (hasB x xs)) ∧ w = w' := by
  have HL := Lib.hid hr.len
  have HR := Lib.hid hr
  clear hr
  go_enter Try.func83, Try.ntmps83
  go_wp2_with fail
  go_loop [5] (fun i => ∃ k : Nat, k ≤ n ∧ i = .int .i64 k ∧ Hid (hasB x (xs.take k) = false)) (fun i => n - (intOf i).toNat)
  case atStart => exact ⟨0, Nat.zero_le _, rfl, Lib.hid rfl⟩
  case round =>
    obtain ⟨k, hk, rfl, hno⟩ := hrel
    by_cases hlt : k < n
    · obtain ⟨b, o, rfl, hb, hc⟩ := HR.out.cells (by omega)
      have hck := hc k hlt
      clear hc
      by_cases he : nth xs k = x
      · have HF := Lib.hid (hasB_hit (by rw [HL.out]; exact hlt) he)
        rw [he] at hck
        clear he
        go_wp2_with fail
        go_ret
        exact ⟨ret_bool HF.out.symm, rfl⟩
      · have he' : (nth xs k == x) = false := by simpa using he
        have HS : Hid (hasB x (xs.take (k + 1)) = false) := Lib.hid (by rw [hasB_take (by rw [HL.out]; exact hlt), hno.out, he']; rfl)
        clear he
        go_wp2_with fail
        go_round
        case rel => exact ⟨k + 1, by omega, by go_num, HS⟩
        case measure => simp [intOf]; omega
    · have HF : Hid (hasB x xs = false) := Lib.hid (by have := hno.out; rwa [List.take_of_length_le (by rw [HL.out]; omega)] at this)
      go_wp2_with fail
      go_ret
      exact ⟨ret_bool HF.out.symm, rfl⟩
set_option maxHeartbeats 1000000 in
theorem l16Known_any (r c : Int) (A : Option Addr) (n cp : Nat) (xs : List Int) (w : World) (B : Nat) (hr : RI w B A n xs) (hB : B ≤ w.heap.size) (hn : n ≤ 1000000000000000) :
    Calls Try.prog 66 #[.agg #[.int .i64 r, .int .i64 c, .slice A n cp]] w fun e w' => e = .returned (.bool (gridB r c xs && posB xs)) ∧ Below w.heap.size w w' := by
  have HA := Lib.hid (fun (w' : World) (hb : Below w.heap.size w w') => sIsGrid_any r c A n cp xs w' w.heap.size ((hr.more hB).below hb) hb.size hn)
  have HH := Lib.hid (fun (w' : World) (hb : Below w.heap.size w w') => l05Has_any (-1) A n cp xs w' w.heap.size ((hr.more hB).below hb) hn)
  cases h1 : gridB r c xs
  · rw [h1] at HA
    clear hr h1 HH
    go_enter Try.func66, Try.ntmps66
    go_wp2_with (go_at_call 47; go_call (HA.out _ (by (repeat (first | (with_reducible assumption) | (with_reducible exact Below.refl _ _) | (with_reducible refine below_drewN' ?_ _) | (with_reducible refine Below.drew ?_) | ((with_reducible refine Below.alloc ?_ ?_ _); rotate_left; focus (first | (simp; done) | (simp; omega) | omega)) | ((with_reducible refine Below.setCell ?_ ?_ _); rotate_left; focus (first | (simp; done) | (simp; omega) | omega)))))) as e1 w1 ⟨rfl, hb1⟩; obtain ⟨hc1, hf1⟩ := bcell hb1; have hB1 : Below w.heap.size w w1 := (below_then (by first | (go_grown; done) | (repeat (first | (with_reducible assumption) | (with_reducible exact Below.refl _ _) | (with_reducible refine below_drewN' ?_ _) | (with_reducible refine Below.drew ?_) | ((with_reducible refine Below.alloc ?_ ?_ _); rotate_left; focus (first | (simp; done) | (simp; omega) | omega)) | ((with_reducible refine Below.setCell ?_ ?_ _); rotate_left; focus (first | (simp; done) | (simp; omega) | omega))))) (by first | omega | (simp; done) | (simp; omega)) hb1); have hz1a : w.heap.size < w1.heap.size := (by have := hb1.size; first | omega | (simp at this; omega)))
    first | go_ret | go_returns
    exact ⟨by simp, by (repeat (first | (with_reducible assumption) | (with_reducible exact Below.refl _ _) | (with_reducible refine below_drewN' ?_ _) | (with_reducible refine Below.drew ?_) | ((with_reducible refine Below.alloc ?_ ?_ _); rotate_left; focus (first | (simp; done) | (simp; omega) | omega)) | ((with_reducible refine Below.setCell ?_ ?_ _); rotate_left; focus (first | (simp; done) | (simp; omega) | omega))))⟩
  · rw [h1] at HA
    rw [hasB_pos (gridB_true h1).2.2.2.2] at HH
    clear hr h1
    go_enter Try.func66, Try.ntmps66
    go_wp2_with first | (go_at_call 47; go_call (HA.out _ (by (repeat (first | (with_reducible assumption) | (with_reducible exact Below.refl _ _) | (with_reducible refine below_drewN' ?_ _) | (with_reducible refine Below.drew ?_) | ((with_reducible refine Below.alloc ?_ ?_ _); rotate_left; focus (first | (simp; done) | (simp; omega) | omega)) | ((with_reducible refine Below.setCell ?_ ?_ _); rotate_left; focus (first | (simp; done) | (simp; omega) | omega)))))) as e1 w1 ⟨rfl, hb1⟩; obtain ⟨hc1, hf1⟩ := bcell hb1; have hB1 : Below w.heap.size w w1 := (below_then (by first | (go_grown; done) | (repeat (first | (with_reducible assumption) | (with_reducible exact Below.refl _ _) | (with_reducible refine below_drewN' ?_ _) | (with_reducible refine Below.drew ?_) | ((with_reducible refine Below.alloc ?_ ?_ _); rotate_left; focus (first | (simp; done) | (simp; omega) | omega)) | ((with_reducible refine Below.setCell ?_ ?_ _); rotate_left; focus (first | (simp; done) | (simp; omega) | omega))))) (by first | omega | (simp; done) | (simp; omega)) hb1); have hz1a : w.heap.size < w1.heap.size := (by have := hb1.size; first | omega | (simp at this; omega))) | (go_at_call 83; with_reducible refine (HH.out _ (by (repeat (first | (with_reducible assumption) | (with_reducible exact Below.refl _ _) | (with_reducible refine below_drewN' ?_ _) | (with_reducible refine Below.drew ?_) | ((with_reducible refine Below.alloc ?_ ?_ _); rotate_left; focus (first | (simp; done) | (simp; omega) | omega)) | ((with_reducible refine Below.setCell ?_ ?_ _); rotate_left; focus (first | (simp; done) | (simp; omega) | omega)))))).mono ?_; rintro e2 w2 ⟨rfl, rfl⟩)
    first | go_ret | go_returns
    exact ⟨by simp, by (repeat (first | (with_reducible assumption) | (with_reducible exact Below.refl _ _) | (with_reducible refine below_drewN' ?_ _) | (with_reducible refine Below.drew ?_) | ((with_reducible refine Below.alloc ?_ ?_ _); rotate_left; focus (first | (simp; done) | (simp; omega) | omega)) | ((with_reducible refine Below.setCell ?_ ?_ _); rotate_left; focus (first | (simp; done) | (simp; omega) | omega))))⟩
set_option maxRecDepth 20000 in
set_option maxHeartbeats 4000000 in
theorem press_pixel_any (h' w' : Int) (p t q : Nat) (d l R C : Int) (A : Option Addr) (n cp : Nat) (xs : List Int) (y x : Nat) (w : World) (B : Nat) (hr : RI w B A n xs) (hB : B ≤ w.heap.size) (hn : (n : Int) = R * C) (hn2 : n ≤ 40000) (hR : 1 ≤ R ∧ R ≤ 40000) (hC : 1 ≤ C ∧ C ≤ 40000)
    (hp : 1 ≤ p ∧ p ≤ 12) (ht : 1 ≤ t ∧ t ≤ 12) (hq : q ≤ 16) (hy : y ≤ 400) (hx : x ≤ 400) :
    Calls Try.prog 57 #[.agg #[.int .i64 h', .int .i64 w', .int .i64 p, .int .i64 t, .int .i64 q, .int .i64 0, .int .i64 d, .int .i64 l, .int .i64 R, .int .i64 C, .slice A n cp], .int .i64 y, .int .i64 x] w fun e w'' =>
      e = .returned (.int .i64 (pixV R C xs p t q d l y x)) ∧ Below w.heap.size w w'' := by
  have HD := Lib.hid (fun (w2 : World) (hb : Below w.heap.size w w2) => dark_any h' w' p t q 0 d l R C (((y / t : Nat) : Int) - (q : Int)) (((x / p : Nat) : Int) - (q : Int)) A n cp xs w2 w.heap.size ((hr.more hB).below hb) hb.size hn hn2 hR hC)
  have hpn : 0 < p := hp.1
  have q1 : ((y : Int).tdiv (t : Int)) = ((y / t : Nat) : Int) := by rw [Int.tdiv_eq_ediv_of_nonneg (by omega)]; simp
  have q2 : ((x : Int).tdiv (p : Int)) = ((x / p : Nat) : Int) := by rw [Int.tdiv_eq_ediv_of_nonneg (by omega)]; simp
  have q3 : ((x : Int).tmod (p : Int)) = ((x % p : Nat) : Int) := by rw [Int.tmod_eq_emod_of_nonneg (by omega)]; simp
  have q4 : ((y : Int) / (t : Int)) = ((y / t : Nat) : Int) := by simp
  have q5 : ((x : Int) / (p : Int)) = ((x / p : Nat) : Int) := by simp
  have q6 : ((x : Int) % (p : Int)) = ((x % p : Nat) : Int) := by simp
  have q7 : x % p < p := Nat.mod_lt _ hpn
  have q8 : y / t ≤ 400 := Nat.le_trans (Nat.div_le_self _ _) hy
  have q9 : x / p ≤ 400 := Nat.le_trans (Nat.div_le_self _ _) hx
  have tz : ¬ ((t : Int) = 0) := by omega
  have pz : ¬ ((p : Int) = 0) := by omega
  have tn : ¬ (t = 0) := by omega
  have pn : ¬ (p = 0) := by omega
  have HV := Lib.hid (show pixV R C xs p t q d l y x = if dkB R C xs (((y / t : Nat) : Int) - (q : Int)) (((x / p : Nat) : Int) - (q : Int)) then d else l from rfl)
  generalize y / t = Y at *
  generalize x / p = X at *
  generalize x % p = K at *
  have k1 : ¬ ((p : Int) ≤ (K : Int)) := by omega
  have k2 : ¬ ((K : Int) < 0) := by omega
  have k4 : ¬ (p ≤ K) := by omega
  have k3 : (K : Int) < (p : Int) := by omega
  have wY : IntKind.i64.wrap (Y : Int) = (Y : Int) := i64_inH (by omega)
  have wX : IntKind.i64.wrap (X : Int) = (X : Int) := i64_inH (by omega)
  have wK : IntKind.i64.wrap (K : Int) = (K : Int) := i64_inH (by omega)
  have v1 : IntKind.i64.wrap ((Y : Int) - (q : Int)) = (Y : Int) - (q : Int) := i64_inH (by omega)
  have v2 : IntKind.i64.wrap ((X : Int) - (q : Int)) = (X : Int) - (q : Int) := i64_inH (by omega)
  clear hr hn
  rw [HV.out]
  generalize dkB R C xs ((Y : Int) - (q : Int)) ((X : Int) - (q : Int)) = DV at *
  cases DV
  all_goals
    go_enter Try.func57, Try.ntmps57
    go_wp2_with fail
    go_quiet (fail)
    go_wp2_with (go_at_call 77; with_reducible refine (HD.out _ ?_).mono ?_; (focus (repeat (first | (with_reducible assumption) | (with_reducible exact Below.refl _ _) | (with_reducible refine below_drewN' ?_ _) | (with_reducible refine Below.drew ?_) | ((with_reducible refine Below.alloc ?_ ?_ _); rotate_left; focus (first | (simp; done) | (simp; omega) | omega)) | ((with_reducible refine Below.setCell ?_ ?_ _); rotate_left; focus (first | (simp; done) | (simp; omega) | omega))))); rintro e1 w1 ⟨rfl, hb1⟩; obtain ⟨hc1, hf1⟩ := bcell hb1; have hB1 : Below w.heap.size w w1 := (below_then (by first | (go_grown; done) | (repeat (first | (with_reducible assumption) | (with_reducible exact Below.refl _ _) | (with_reducible refine below_drewN' ?_ _) | (with_reducible refine Below.drew ?_) | ((with_reducible refine Below.alloc ?_ ?_ _); rotate_left; focus (first | (simp; done) | (simp; omega) | omega)) | ((with_reducible refine Below.setCell ?_ ?_ _); rotate_left; focus (first | (simp; done) | (simp; omega) | omega))))) (by first | omega | (simp; done) | (simp; omega)) hb1); have hz1a : w.heap.size < w1.heap.size := (by have := hb1.size; first | omega | (simp at this; omega)))
    first | go_ret | go_returns
    exact ⟨by simp, by (repeat (first | (with_reducible assumption) | (with_reducible exact Below.refl _ _) | (with_reducible refine below_drewN' ?_ _) | (with_reducible refine Below.drew ?_) | ((with_reducible refine Below.alloc ?_ ?_ _); rotate_left; focus (first | (simp; done) | (simp; omega) | omega)) | ((with_reducible refine Below.setCell ?_ ?_ _); rotate_left; focus (first | (simp; done) | (simp; omega) | omega))))⟩
set_option maxRecDepth 20000 in
set_option maxHeartbeats 4000000 in
theorem l21Pixel_any (p t q : Nat) (d l R C : Int) (A : Option Addr) (n cp : Nat) (xs : List Int) (y x : Nat) (w : World) (B : Nat) (hr : RI w B A n xs) (hB : B ≤ w.heap.size) (hn : (n : Int) = R * C) (hn2 : n ≤ 40000) (hR : 1 ≤ R ∧ R ≤ 40000) (hC : 1 ≤ C ∧ C ≤ 40000)
    (hp : 1 ≤ p ∧ p ≤ 12) (ht : 1 ≤ t ∧ t ≤ 12) (hq : q ≤ 16) (hy : y ≤ 400) (hx : x ≤ 400) :
    Calls Try.prog 86 #[.agg #[.int .i64 R, .int .i64 C, .slice A n cp], .agg #[.int .i64 p, .int .i64 t, .int .i64 q, .int .i64 0, .int .i64 d, .int .i64 l], .int .i64 y, .int .i64 x] w fun e w'' =>
      e = .returned (.bool (dkB R C xs (((y / t : Nat) : Int) - (q : Int)) (((x / p : Nat) : Int) - (q : Int)))) ∧ Below w.heap.size w w'' := by
  have HD := Lib.hid (fun (w2 : World) (hb : Below w.heap.size w w2) => l21Dark_any R C (((y / t : Nat) : Int) - (q : Int)) (((x / p : Nat) : Int) - (q : Int)) A n cp xs w2 w.heap.size ((hr.more hB).below hb) hb.size hn hn2 hR hC)
  have HD1 := Lib.hid (fun (w2 : World) (hb : Below w.heap.size w w2) => l21Dark_any R C (((y / t : Nat) : Int) - (q : Int)) (((x / p : Nat) : Int) - (q : Int) + 1) A n cp xs w2 w.heap.size ((hr.more hB).below hb) hb.size hn hn2 hR hC)
  have hpn : 0 < p := hp.1
  have q1 : ((y : Int).tdiv (t : Int)) = ((y / t : Nat) : Int) := by rw [Int.tdiv_eq_ediv_of_nonneg (by omega)]; simp
  have q2 : ((x : Int).tdiv (p : Int)) = ((x / p : Nat) : Int) := by rw [Int.tdiv_eq_ediv_of_nonneg (by omega)]; simp
  have q3 : ((x : Int).tmod (p : Int)) = ((x % p : Nat) : Int) := by rw [Int.tmod_eq_emod_of_nonneg (by omega)]; simp
  have q4 : ((y : Int) / (t : Int)) = ((y / t : Nat) : Int) := by simp
  have q5 : ((x : Int) / (p : Int)) = ((x / p : Nat) : Int) := by simp
  have q6 : ((x : Int) % (p : Int)) = ((x % p : Nat) : Int) := by simp
  have q7 : x % p < p := Nat.mod_lt _ hpn
  have q8 : y / t ≤ 400 := Nat.le_trans (Nat.div_le_self _ _) hy
  have q9 : x / p ≤ 400 := Nat.le_trans (Nat.div_le_self _ _) hx
  have tz : ¬ ((t : Int) = 0) := by omega
  have pz : ¬ ((p : Int) = 0) := by omega
  have tn : ¬ (t = 0) := by omega
  have pn : ¬ (p = 0) := by omega
  have HV := Lib.hid (show pixV R C xs p t q d l y x = if dkB R C xs (((y / t : Nat) : Int) - (q : Int)) (((x / p : Nat) : Int) - (q : Int)) then d else l from rfl)
  generalize y / t = Y at *
  generalize x / p = X at *
  generalize x % p = K at *
  have k1 : ¬ ((p : Int) ≤ (K : Int)) := by omega
  have k2 : ¬ ((K : Int) < 0) := by omega
  have k4 : ¬ (p ≤ K) := by omega
  have k3 : (K : Int) < (p : Int) := by omega
  have wY : IntKind.i64.wrap (Y : Int) = (Y : Int) := i64_inH (by omega)
  have wX : IntKind.i64.wrap (X : Int) = (X : Int) := i64_inH (by omega)
  have wK : IntKind.i64.wrap (K : Int) = (K : Int) := i64_inH (by omega)
  have v1 : IntKind.i64.wrap ((Y : Int) - (q : Int)) = (Y : Int) - (q : Int) := i64_inH (by omega)
  have v2 : IntKind.i64.wrap ((X : Int) - (q : Int)) = (X : Int) - (q : Int) := i64_inH (by omega)
  clear hr hn
  generalize dkB R C xs ((Y : Int) - (q : Int)) ((X : Int) - (q : Int)) = DV at *
  generalize dkB R C xs ((Y : Int) - (q : Int)) ((X : Int) - (q : Int) + 1) = DW at *
  cases DV
  · go_enter Try.func86, Try.ntmps86
    go_wp2_with fail
    go_quiet (fail)
    go_wp2_with (go_at_call 110; with_reducible refine (HD.out _ ?_).mono ?_; (focus (repeat (first | (with_reducible assumption) | (with_reducible exact Below.refl _ _) | (with_reducible refine below_drewN' ?_ _) | (with_reducible refine Below.drew ?_) | ((with_reducible refine Below.alloc ?_ ?_ _); rotate_left; focus (first | (simp; done) | (simp; omega) | omega)) | ((with_reducible refine Below.setCell ?_ ?_ _); rotate_left; focus (first | (simp; done) | (simp; omega) | omega))))); rintro e1 w1 ⟨rfl, hb1⟩; obtain ⟨hc1, hf1⟩ := bcell hb1; have hB1 : Below w.heap.size w w1 := (below_then (by first | (go_grown; done) | (repeat (first | (with_reducible assumption) | (with_reducible exact Below.refl _ _) | (with_reducible refine below_drewN' ?_ _) | (with_reducible refine Below.drew ?_) | ((with_reducible refine Below.alloc ?_ ?_ _); rotate_left; focus (first | (simp; done) | (simp; omega) | omega)) | ((with_reducible refine Below.setCell ?_ ?_ _); rotate_left; focus (first | (simp; done) | (simp; omega) | omega))))) (by first | omega | (simp; done) | (simp; omega)) hb1); have hz1a : w.heap.size < w1.heap.size := (by have := hb1.size; first | omega | (simp at this; omega)); have hz1b : w.heap.size + 1 < w1.heap.size := (by have := hb1.size; first | omega | (simp at this; omega)))
    first | go_ret | go_returns
    exact ⟨by simp, by (repeat (first | (with_reducible assumption) | (with_reducible exact Below.refl _ _) | (with_reducible refine below_drewN' ?_ _) | (with_reducible refine Below.drew ?_) | ((with_reducible refine Below.alloc ?_ ?_ _); rotate_left; focus (first | (simp; done) | (simp; omega) | omega)) | ((with_reducible refine Below.setCell ?_ ?_ _); rotate_left; focus (first | (simp; done) | (simp; omega) | omega))))⟩
  · cases DW
    all_goals
      go_enter Try.func86, Try.ntmps86
      go_wp2_with fail
      go_quiet (fail)
      go_wp2_with first | (go_at_call 110; with_reducible refine (HD.out _ ?_).mono ?_; (focus (repeat (first | (with_reducible assumption) | (with_reducible exact Below.refl _ _) | (with_reducible refine below_drewN' ?_ _) | (with_reducible refine Below.drew ?_) | ((with_reducible refine Below.alloc ?_ ?_ _); rotate_left; focus (first | (simp; done) | (simp; omega) | omega)) | ((with_reducible refine Below.setCell ?_ ?_ _); rotate_left; focus (first | (simp; done) | (simp; omega) | omega))))); rintro e1 w1 ⟨rfl, hb1⟩; obtain ⟨hc1, hf1⟩ := bcell hb1; have hB1 : Below w.heap.size w w1 := (below_then (by first | (go_grown; done) | (repeat (first | (with_reducible assumption) | (with_reducible exact Below.refl _ _) | (with_reducible refine below_drewN' ?_ _) | (with_reducible refine Below.drew ?_) | ((with_reducible refine Below.alloc ?_ ?_ _); rotate_left; focus (first | (simp; done) | (simp; omega) | omega)) | ((with_reducible refine Below.setCell ?_ ?_ _); rotate_left; focus (first | (simp; done) | (simp; omega) | omega))))) (by first | omega | (simp; done) | (simp; omega)) hb1); have hz1a : w.heap.size < w1.heap.size := (by have := hb1.size; first | omega | (simp at this; omega)); have hz1b : w.heap.size + 1 < w1.heap.size := (by have := hb1.size; first | omega | (simp at this; omega))) | (go_at_call 110; with_reducible refine (HD1.out _ ?_).mono ?_; (focus (repeat (first | (with_reducible assumption) | (with_reducible exact Below.refl _ _) | (with_reducible refine below_drewN' ?_ _) | (with_reducible refine Below.drew ?_) | ((with_reducible refine Below.alloc ?_ ?_ _); rotate_left; focus (first | (simp; done) | (simp; omega) | omega)) | ((with_reducible refine Below.setCell ?_ ?_ _); rotate_left; focus (first | (simp; done) | (simp; omega) | omega))))); rintro e2 w2 ⟨rfl, hb2⟩; obtain ⟨hc2, hf2⟩ := bcell hb2; have hB2 : Below w.heap.size w w2 := (below_then (by first | (go_grown; done) | (repeat (first | (with_reducible assumption) | (with_reducible exact Below.refl _ _) | (with_reducible refine below_drewN' ?_ _) | (with_reducible refine Below.drew ?_) | ((with_reducible refine Below.alloc ?_ ?_ _); rotate_left; focus (first | (simp; done) | (simp; omega) | omega)) | ((with_reducible refine Below.setCell ?_ ?_ _); rotate_left; focus (first | (simp; done) | (simp; omega) | omega))))) (by first | omega | (simp; done) | (simp; omega)) hb2); have hz2a : w.heap.size < w2.heap.size := (by have := hb2.size; first | omega | (simp at this; omega)); have hz2b : w.heap.size + 1 < w2.heap.size := (by have := hb2.size; first | omega | (simp at this; omega)))
      all_goals (first | go_ret | go_returns)
      all_goals (exact ⟨by simp, by (repeat (first | (with_reducible assumption) | (with_reducible exact Below.refl _ _) | (with_reducible refine below_drewN' ?_ _) | (with_reducible refine Below.drew ?_) | ((with_reducible refine Below.alloc ?_ ?_ _); rotate_left; focus (first | (simp; done) | (simp; omega) | omega)) | ((with_reducible refine Below.setCell ?_ ?_ _); rotate_left; focus (first | (simp; done) | (simp; omega) | omega))))⟩)

set_option maxHeartbeats 4000000 in
theorem PrintGrid_a (R C : Int) (A : Option Addr) (n cp : Nat) (xs : List Int) (p t q d l : Int) (w : World) (B : Nat) (hr : RI w B A n xs) (hB : B ≤ w.heap.size) (hn : n ≤ 1000000000000000) (h1 : gridB R C xs = false) :
    Calls Try.prog 24 #[.agg #[.int .i64 R, .int .i64 C, .slice A n cp], .agg #[.int .i64 p, .int .i64 t, .int .i64 q, .int .i64 0, .int .i64 d, .int .i64 l]] w fun e w' => ∃ v, e = .returned (.tuple #[.agg #[.int .i64 0, .int .i64 0, v], .int .i64 1]) ∧ Own w' w.heap.size v ([]) ∧ Below w.heap.size w w' := by
  have HA := Lib.hid (fun (w' : World) (hb : Below w.heap.size w w') => IsGrid_any R C A n cp xs w' w.heap.size ((hr.more hB).below hb) hb.size hn)
  have HPR := Lib.hid (fun w => IsPrint_any p t q 0 d l w)
  have HK := Lib.hid (fun (w' : World) (hb : Below w.heap.size w w') => known_any R C A n cp xs w' w.heap.size ((hr.more hB).below hb) hb.size hn)
  have HS := Lib.hid (fun w => PrintSize_any R C p t q 0 d l w)
  rw [h1] at HA
  clear hr h1
  clear HPR HK HS
  have HZ0 : Hid ((((w.alloc (.cells #[.int .i64 R, .int .i64 C, .slice A n cp] 41)).alloc (.cells #[.int .i64 p, .int .i64 t, .int .i64 q, .int .i64 0, .int .i64 d, .int .i64 l] 54)).alloc (.cells #[.int .i64 0, .int .i64 0, .slice none 0 0] 28)).heap[w.heap.size + 1 + 1]? = some (.cells #[.int .i64 0, .int .i64 0, .slice none 0 0] 28 (0, 0))) := Lib.hid (heap_alloc_at (by simp))
  go_enter Try.func24, Try.ntmps24
  go_upto_region 2 with (first | (go_at_call 45; go_call (HA.out _ (by (repeat (first | (with_reducible assumption) | (with_reducible exact Below.refl _ _) | (with_reducible refine below_drewN' ?_ _) | (with_reducible refine Below.drew ?_) | ((with_reducible refine Below.alloc ?_ ?_ _); rotate_left; focus (first | (simp; done) | (simp; omega) | omega)) | ((with_reducible refine Below.setCell ?_ ?_ _); rotate_left; focus (first | (simp; done) | (simp; omega) | omega)))))) as e1 w1 ⟨rfl, hb1⟩; obtain ⟨hc1, hf1⟩ := bcell hb1; have hB1 : Below w.heap.size w w1 := (below_then (by first | (go_grown; done) | (repeat (first | (with_reducible assumption) | (with_reducible exact Below.refl _ _) | (with_reducible refine below_drewN' ?_ _) | (with_reducible refine Below.drew ?_) | ((with_reducible refine Below.alloc ?_ ?_ _); rotate_left; focus (first | (simp; done) | (simp; omega) | omega)) | ((with_reducible refine Below.setCell ?_ ?_ _); rotate_left; focus (first | (simp; done) | (simp; omega) | omega))))) (by first | omega | (simp; done) | (simp; omega)) hb1); have hz1a : w.heap.size < w1.heap.size := (by have := hb1.size; first | omega | (simp at this; omega)); have hz1b : w.heap.size + 1 < w1.heap.size := (by have := hb1.size; first | omega | (simp at this; omega)); have hz1c : w.heap.size + 1 + 1 < w1.heap.size := (by have := hb1.size; first | omega | (simp at this; omega))))
  have HZ1 := Lib.hid (blk_below HZ0.out hb1 (by first | (simp; done) | omega | (simp; omega)))
  have hzw : w.heap.size + 1 + 1 < w1.heap.size := by omega
  have HBF := Lib.hid hB1
  clear hc1 hf1 hb1 hB1
  obtain ⟨z0, z1, z2, zf⟩ := blk3 HZ1.out
  obtain ⟨s0, s1, s2⟩ := res3 HZ1.out (.int .i64 0) (.int .i64 0) (.slice none 0 0)
  go_wp2_with fail
  (try simp only [Exit.inBlock, Exit.then]); refine bodyPost_ret (by simp [results, Try.results24, go_sem, s0, s1, s2]; try rfl) rfl ?_
  exact ⟨_, rfl, Own.nil, HBF.out.trans (by (repeat (first | (with_reducible assumption) | (with_reducible exact Below.refl _ _) | (with_reducible refine below_drewN' ?_ _) | (with_reducible refine Below.drew ?_) | ((with_reducible refine Below.alloc ?_ ?_ _); rotate_left; focus (first | (simp; done) | (simp; omega) | omega)) | ((with_reducible refine Below.setCell ?_ ?_ _); rotate_left; focus (first | (simp; done) | (simp; omega) | omega)))))⟩
set_option maxHeartbeats 4000000 in
theorem PrintGrid_b (R C : Int) (A : Option Addr) (n cp : Nat) (xs : List Int) (p t q d l : Int) (w : World) (B : Nat) (hr : RI w B A n xs) (hB : B ≤ w.heap.size) (hn : n ≤ 1000000000000000) (h1 : gridB R C xs = true) (h2 : prnB p t q 0 d l = false) :
    Calls Try.prog 24 #[.agg #[.int .i64 R, .int .i64 C, .slice A n cp], .agg #[.int .i64 p, .int .i64 t, .int .i64 q, .int .i64 0, .int .i64 d, .int .i64 l]] w fun e w' => ∃ v, e = .returned (.tuple #[.agg #[.int .i64 0, .int .i64 0, v], .int .i64 1]) ∧ Own w' w.heap.size v ([]) ∧ Below w.heap.size w w' := by
  have HA := Lib.hid (fun (w' : World) (hb : Below w.heap.size w w') => IsGrid_any R C A n cp xs w' w.heap.size ((hr.more hB).below hb) hb.size hn)
  have HPR := Lib.hid (fun w => IsPrint_any p t q 0 d l w)
  have HK := Lib.hid (fun (w' : World) (hb : Below w.heap.size w w') => known_any R C A n cp xs w' w.heap.size ((hr.more hB).below hb) hb.size hn)
  have HS := Lib.hid (fun w => PrintSize_any R C p t q 0 d l w)
  rw [h1] at HA
  rw [h2] at HPR
  clear hr h1 h2
  clear HK HS
  have HZ0 : Hid ((((w.alloc (.cells #[.int .i64 R, .int .i64 C, .slice A n cp] 41)).alloc (.cells #[.int .i64 p, .int .i64 t, .int .i64 q, .int .i64 0, .int .i64 d, .int .i64 l] 54)).alloc (.cells #[.int .i64 0, .int .i64 0, .slice none 0 0] 28)).heap[w.heap.size + 1 + 1]? = some (.cells #[.int .i64 0, .int .i64 0, .slice none 0 0] 28 (0, 0))) := Lib.hid (heap_alloc_at (by simp))
  go_enter Try.func24, Try.ntmps24
  go_upto_region 2 with (first | (go_at_call 45; go_call (HA.out _ (by (repeat (first | (with_reducible assumption) | (with_reducible exact Below.refl _ _) | (with_reducible refine below_drewN' ?_ _) | (with_reducible refine Below.drew ?_) | ((with_reducible refine Below.alloc ?_ ?_ _); rotate_left; focus (first | (simp; done) | (simp; omega) | omega)) | ((with_reducible refine Below.setCell ?_ ?_ _); rotate_left; focus (first | (simp; done) | (simp; omega) | omega)))))) as e1 w1 ⟨rfl, hb1⟩; obtain ⟨hc1, hf1⟩ := bcell hb1; have hB1 : Below w.heap.size w w1 := (below_then (by first | (go_grown; done) | (repeat (first | (with_reducible assumption) | (with_reducible exact Below.refl _ _) | (with_reducible refine below_drewN' ?_ _) | (with_reducible refine Below.drew ?_) | ((with_reducible refine Below.alloc ?_ ?_ _); rotate_left; focus (first | (simp; done) | (simp; omega) | omega)) | ((with_reducible refine Below.setCell ?_ ?_ _); rotate_left; focus (first | (simp; done) | (simp; omega) | omega))))) (by first | omega | (simp; done) | (simp; omega)) hb1); have hz1a : w.heap.size < w1.heap.size := (by have := hb1.size; first | omega | (simp at this; omega)); have hz1b : w.heap.size + 1 < w1.heap.size := (by have := hb1.size; first | omega | (simp at this; omega)); have hz1c : w.heap.size + 1 + 1 < w1.heap.size := (by have := hb1.size; first | omega | (simp at this; omega))) | (go_at_call 52; go_call (HPR.out _) as e2 w2 ⟨rfl, hb2⟩; obtain ⟨hc2, hf2⟩ := bcell hb2; have hB2 : Below w.heap.size w w2 := (below_then (by first | (go_grown; done) | (repeat (first | (with_reducible assumption) | (with_reducible exact Below.refl _ _) | (with_reducible refine below_drewN' ?_ _) | (with_reducible refine Below.drew ?_) | ((with_reducible refine Below.alloc ?_ ?_ _); rotate_left; focus (first | (simp; done) | (simp; omega) | omega)) | ((with_reducible refine Below.setCell ?_ ?_ _); rotate_left; focus (first | (simp; done) | (simp; omega) | omega))))) (by first | omega | (simp; done) | (simp; omega)) hb2); have hz2a : w.heap.size < w2.heap.size := (by have := hb2.size; first | omega | (simp at this; omega)); have hz2b : w.heap.size + 1 < w2.heap.size := (by have := hb2.size; first | omega | (simp at this; omega)); have hz2c : w.heap.size + 1 + 1 < w2.heap.size := (by have := hb2.size; first | omega | (simp at this; omega))))
  have HZ1 := Lib.hid (blk_below (blk_below HZ0.out hb1 (by first | (simp; done) | omega | (simp; omega))) hb2 (by first | (simp; done) | omega | (simp; omega)))
  have hzw : w.heap.size + 1 + 1 < w2.heap.size := by omega
  have HBF := Lib.hid hB2
  clear hc2 hf2 hb2 hB2 hc1 hf1 hb1 hB1
  obtain ⟨z0, z1, z2, zf⟩ := blk3 HZ1.out
  obtain ⟨s0, s1, s2⟩ := res3 HZ1.out (.int .i64 0) (.int .i64 0) (.slice none 0 0)
  go_wp2_with fail
  (try simp only [Exit.inBlock, Exit.then]); refine bodyPost_ret (by simp [results, Try.results24, go_sem, s0, s1, s2]; try rfl) rfl ?_
  exact ⟨_, rfl, Own.nil, HBF.out.trans (by (repeat (first | (with_reducible assumption) | (with_reducible exact Below.refl _ _) | (with_reducible refine below_drewN' ?_ _) | (with_reducible refine Below.drew ?_) | ((with_reducible refine Below.alloc ?_ ?_ _); rotate_left; focus (first | (simp; done) | (simp; omega) | omega)) | ((with_reducible refine Below.setCell ?_ ?_ _); rotate_left; focus (first | (simp; done) | (simp; omega) | omega)))))⟩
set_option maxHeartbeats 4000000 in
theorem PrintGrid_c (R C : Int) (A : Option Addr) (n cp : Nat) (xs : List Int) (p t q d l : Int) (w : World) (B : Nat) (hr : RI w B A n xs) (hB : B ≤ w.heap.size) (hn : n ≤ 1000000000000000) (h1 : gridB R C xs = true) (h2 : prnB p t q 0 d l = true) (h3 : posB xs = false) :
    Calls Try.prog 24 #[.agg #[.int .i64 R, .int .i64 C, .slice A n cp], .agg #[.int .i64 p, .int .i64 t, .int .i64 q, .int .i64 0, .int .i64 d, .int .i64 l]] w fun e w' => ∃ v, e = .returned (.tuple #[.agg #[.int .i64 0, .int .i64 0, v], .int .i64 5]) ∧ Own w' w.heap.size v ([]) ∧ Below w.heap.size w w' := by
  have HA := Lib.hid (fun (w' : World) (hb : Below w.heap.size w w') => IsGrid_any R C A n cp xs w' w.heap.size ((hr.more hB).below hb) hb.size hn)
  have HPR := Lib.hid (fun w => IsPrint_any p t q 0 d l w)
  have HK := Lib.hid (fun (w' : World) (hb : Below w.heap.size w w') => known_any R C A n cp xs w' w.heap.size ((hr.more hB).below hb) hb.size hn)
  have HS := Lib.hid (fun w => PrintSize_any R C p t q 0 d l w)
  rw [h1] at HA
  rw [h2] at HPR
  rw [h3] at HK
  clear hr h1 h2 h3
  clear HS
  have HZ0 : Hid ((((w.alloc (.cells #[.int .i64 R, .int .i64 C, .slice A n cp] 41)).alloc (.cells #[.int .i64 p, .int .i64 t, .int .i64 q, .int .i64 0, .int .i64 d, .int .i64 l] 54)).alloc (.cells #[.int .i64 0, .int .i64 0, .slice none 0 0] 28)).heap[w.heap.size + 1 + 1]? = some (.cells #[.int .i64 0, .int .i64 0, .slice none 0 0] 28 (0, 0))) := Lib.hid (heap_alloc_at (by simp))
  go_enter Try.func24, Try.ntmps24
  go_upto_region 4 with (first | (go_at_call 45; go_call (HA.out _ (by (repeat (first | (with_reducible assumption) | (with_reducible exact Below.refl _ _) | (with_reducible refine below_drewN' ?_ _) | (with_reducible refine Below.drew ?_) | ((with_reducible refine Below.alloc ?_ ?_ _); rotate_left; focus (first | (simp; done) | (simp; omega) | omega)) | ((with_reducible refine Below.setCell ?_ ?_ _); rotate_left; focus (first | (simp; done) | (simp; omega) | omega)))))) as e1 w1 ⟨rfl, hb1⟩; obtain ⟨hc1, hf1⟩ := bcell hb1; have hB1 : Below w.heap.size w w1 := (below_then (by first | (go_grown; done) | (repeat (first | (with_reducible assumption) | (with_reducible exact Below.refl _ _) | (with_reducible refine below_drewN' ?_ _) | (with_reducible refine Below.drew ?_) | ((with_reducible refine Below.alloc ?_ ?_ _); rotate_left; focus (first | (simp; done) | (simp; omega) | omega)) | ((with_reducible refine Below.setCell ?_ ?_ _); rotate_left; focus (first | (simp; done) | (simp; omega) | omega))))) (by first | omega | (simp; done) | (simp; omega)) hb1); have hz1a : w.heap.size < w1.heap.size := (by have := hb1.size; first | omega | (simp at this; omega)); have hz1b : w.heap.size + 1 < w1.heap.size := (by have := hb1.size; first | omega | (simp at this; omega)); have hz1c : w.heap.size + 1 + 1 < w1.heap.size := (by have := hb1.size; first | omega | (simp at this; omega))) | (go_at_call 52; go_call (HPR.out _) as e2 w2 ⟨rfl, hb2⟩; obtain ⟨hc2, hf2⟩ := bcell hb2; have hB2 : Below w.heap.size w w2 := (below_then (by first | (go_grown; done) | (repeat (first | (with_reducible assumption) | (with_reducible exact Below.refl _ _) | (with_reducible refine below_drewN' ?_ _) | (with_reducible refine Below.drew ?_) | ((with_reducible refine Below.alloc ?_ ?_ _); rotate_left; focus (first | (simp; done) | (simp; omega) | omega)) | ((with_reducible refine Below.setCell ?_ ?_ _); rotate_left; focus (first | (simp; done) | (simp; omega) | omega))))) (by first | omega | (simp; done) | (simp; omega)) hb2); have hz2a : w.heap.size < w2.heap.size := (by have := hb2.size; first | omega | (simp at this; omega)); have hz2b : w.heap.size + 1 < w2.heap.size := (by have := hb2.size; first | omega | (simp at this; omega)); have hz2c : w.heap.size + 1 + 1 < w2.heap.size := (by have := hb2.size; first | omega | (simp at this; omega))) | (go_at_call 53; go_call (HK.out _ (by (repeat (first | (with_reducible assumption) | (with_reducible exact Below.refl _ _) | (with_reducible refine below_drewN' ?_ _) | (with_reducible refine Below.drew ?_) | ((with_reducible refine Below.alloc ?_ ?_ _); rotate_left; focus (first | (simp; done) | (simp; omega) | omega)) | ((with_reducible refine Below.setCell ?_ ?_ _); rotate_left; focus (first | (simp; done) | (simp; omega) | omega)))))) as e3 w3 ⟨rfl, hb3⟩; obtain ⟨hc3, hf3⟩ := bcell hb3; have hB3 : Below w.heap.size w w3 := (below_then (by first | (go_grown; done) | (repeat (first | (with_reducible assumption) | (with_reducible exact Below.refl _ _) | (with_reducible refine below_drewN' ?_ _) | (with_reducible refine Below.drew ?_) | ((with_reducible refine Below.alloc ?_ ?_ _); rotate_left; focus (first | (simp; done) | (simp; omega) | omega)) | ((with_reducible refine Below.setCell ?_ ?_ _); rotate_left; focus (first | (simp; done) | (simp; omega) | omega))))) (by first | omega | (simp; done) | (simp; omega)) hb3); have hz3a : w.heap.size < w3.heap.size := (by have := hb3.size; first | omega | (simp at this; omega)); have hz3b : w.heap.size + 1 < w3.heap.size := (by have := hb3.size; first | omega | (simp at this; omega)); have hz3c : w.heap.size + 1 + 1 < w3.heap.size := (by have := hb3.size; first | omega | (simp at this; omega))))
  have HZ1 := Lib.hid (blk_below (blk_below (blk_below HZ0.out hb1 (by first | (simp; done) | omega | (simp; omega))) hb2 (by first | (simp; done) | omega | (simp; omega))) hb3 (by first | (simp; done) | omega | (simp; omega)))
  have hzw : w.heap.size + 1 + 1 < w3.heap.size := by omega
  have HBF := Lib.hid hB3
  clear hc3 hf3 hb3 hB3 hc2 hf2 hb2 hB2 hc1 hf1 hb1 hB1
  obtain ⟨z0, z1, z2, zf⟩ := blk3 HZ1.out
  obtain ⟨s0, s1, s2⟩ := res3 HZ1.out (.int .i64 0) (.int .i64 0) (.slice none 0 0)
  go_wp2_with fail
  (try simp only [Exit.inBlock, Exit.then]); refine bodyPost_ret (by simp [results, Try.results24, go_sem, s0, s1, s2]; try rfl) rfl ?_
  exact ⟨_, rfl, Own.nil, HBF.out.trans (by (repeat (first | (with_reducible assumption) | (with_reducible exact Below.refl _ _) | (with_reducible refine below_drewN' ?_ _) | (with_reducible refine Below.drew ?_) | ((with_reducible refine Below.alloc ?_ ?_ _); rotate_left; focus (first | (simp; done) | (simp; omega) | omega)) | ((with_reducible refine Below.setCell ?_ ?_ _); rotate_left; focus (first | (simp; done) | (simp; omega) | omega)))))⟩
set_option maxHeartbeats 4000000 in
theorem PrintGrid_d (R C : Int) (A : Option Addr) (n cp : Nat) (xs : List Int) (p t q d l : Int) (w : World) (B : Nat) (hr : RI w B A n xs) (hB : B ≤ w.heap.size) (hn : n ≤ 1000000000000000) (h1 : gridB R C xs = true) (h2 : prnB p t q 0 d l = true) (h3 : posB xs = true) (h4 : psK R C p t q 0 d l ≠ 0) :
    Calls Try.prog 24 #[.agg #[.int .i64 R, .int .i64 C, .slice A n cp], .agg #[.int .i64 p, .int .i64 t, .int .i64 q, .int .i64 0, .int .i64 d, .int .i64 l]] w fun e w' => ∃ v, e = .returned (.tuple #[.agg #[.int .i64 0, .int .i64 0, v], .int .i64 (psK R C p t q 0 d l)]) ∧ Own w' w.heap.size v ([]) ∧ Below w.heap.size w w' := by
  have HA := Lib.hid (fun (w' : World) (hb : Below w.heap.size w w') => IsGrid_any R C A n cp xs w' w.heap.size ((hr.more hB).below hb) hb.size hn)
  have HPR := Lib.hid (fun w => IsPrint_any p t q 0 d l w)
  have HK := Lib.hid (fun (w' : World) (hb : Below w.heap.size w w') => known_any R C A n cp xs w' w.heap.size ((hr.more hB).below hb) hb.size hn)
  have HS := Lib.hid (fun w => PrintSize_any R C p t q 0 d l w)
  rw [h1] at HA
  rw [h2] at HPR
  rw [h3] at HK
  have h5 : (psK R C p t q 0 d l != 0) = true := by simpa using h4
  rw [gK_no h4, gK_no h4] at HS
  generalize psK R C p t q 0 d l = K at *
  clear hr h1 h2 h3 h4
  have HZ0 : Hid ((((w.alloc (.cells #[.int .i64 R, .int .i64 C, .slice A n cp] 41)).alloc (.cells #[.int .i64 p, .int .i64 t, .int .i64 q, .int .i64 0, .int .i64 d, .int .i64 l] 54)).alloc (.cells #[.int .i64 0, .int .i64 0, .slice none 0 0] 28)).heap[w.heap.size + 1 + 1]? = some (.cells #[.int .i64 0, .int .i64 0, .slice none 0 0] 28 (0, 0))) := Lib.hid (heap_alloc_at (by simp))
  go_enter Try.func24, Try.ntmps24
  go_upto_region 7 with (first | (go_at_call 45; go_call (HA.out _ (by (repeat (first | (with_reducible assumption) | (with_reducible exact Below.refl _ _) | (with_reducible refine below_drewN' ?_ _) | (with_reducible refine Below.drew ?_) | ((with_reducible refine Below.alloc ?_ ?_ _); rotate_left; focus (first | (simp; done) | (simp; omega) | omega)) | ((with_reducible refine Below.setCell ?_ ?_ _); rotate_left; focus (first | (simp; done) | (simp; omega) | omega)))))) as e1 w1 ⟨rfl, hb1⟩; obtain ⟨hc1, hf1⟩ := bcell hb1; have hB1 : Below w.heap.size w w1 := (below_then (by first | (go_grown; done) | (repeat (first | (with_reducible assumption) | (with_reducible exact Below.refl _ _) | (with_reducible refine below_drewN' ?_ _) | (with_reducible refine Below.drew ?_) | ((with_reducible refine Below.alloc ?_ ?_ _); rotate_left; focus (first | (simp; done) | (simp; omega) | omega)) | ((with_reducible refine Below.setCell ?_ ?_ _); rotate_left; focus (first | (simp; done) | (simp; omega) | omega))))) (by first | omega | (simp; done) | (simp; omega)) hb1); have hz1a : w.heap.size < w1.heap.size := (by have := hb1.size; first | omega | (simp at this; omega)); have hz1b : w.heap.size + 1 < w1.heap.size := (by have := hb1.size; first | omega | (simp at this; omega)); have hz1c : w.heap.size + 1 + 1 < w1.heap.size := (by have := hb1.size; first | omega | (simp at this; omega))) | (go_at_call 52; go_call (HPR.out _) as e2 w2 ⟨rfl, hb2⟩; obtain ⟨hc2, hf2⟩ := bcell hb2; have hB2 : Below w.heap.size w w2 := (below_then (by first | (go_grown; done) | (repeat (first | (with_reducible assumption) | (with_reducible exact Below.refl _ _) | (with_reducible refine below_drewN' ?_ _) | (with_reducible refine Below.drew ?_) | ((with_reducible refine Below.alloc ?_ ?_ _); rotate_left; focus (first | (simp; done) | (simp; omega) | omega)) | ((with_reducible refine Below.setCell ?_ ?_ _); rotate_left; focus (first | (simp; done) | (simp; omega) | omega))))) (by first | omega | (simp; done) | (simp; omega)) hb2); have hz2a : w.heap.size < w2.heap.size := (by have := hb2.size; first | omega | (simp at this; omega)); have hz2b : w.heap.size + 1 < w2.heap.size := (by have := hb2.size; first | omega | (simp at this; omega)); have hz2c : w.heap.size + 1 + 1 < w2.heap.size := (by have := hb2.size; first | omega | (simp at this; omega))) | (go_at_call 53; go_call (HK.out _ (by (repeat (first | (with_reducible assumption) | (with_reducible exact Below.refl _ _) | (with_reducible refine below_drewN' ?_ _) | (with_reducible refine Below.drew ?_) | ((with_reducible refine Below.alloc ?_ ?_ _); rotate_left; focus (first | (simp; done) | (simp; omega) | omega)) | ((with_reducible refine Below.setCell ?_ ?_ _); rotate_left; focus (first | (simp; done) | (simp; omega) | omega)))))) as e3 w3 ⟨rfl, hb3⟩; obtain ⟨hc3, hf3⟩ := bcell hb3; have hB3 : Below w.heap.size w w3 := (below_then (by first | (go_grown; done) | (repeat (first | (with_reducible assumption) | (with_reducible exact Below.refl _ _) | (with_reducible refine below_drewN' ?_ _) | (with_reducible refine Below.drew ?_) | ((with_reducible refine Below.alloc ?_ ?_ _); rotate_left; focus (first | (simp; done) | (simp; omega) | omega)) | ((with_reducible refine Below.setCell ?_ ?_ _); rotate_left; focus (first | (simp; done) | (simp; omega) | omega))))) (by first | omega | (simp; done) | (simp; omega)) hb3); have hz3a : w.heap.size < w3.heap.size := (by have := hb3.size; first | omega | (simp at this; omega)); have hz3b : w.heap.size + 1 < w3.heap.size := (by have := hb3.size; first | omega | (simp at this; omega)); have hz3c : w.heap.size + 1 + 1 < w3.heap.size := (by have := hb3.size; first | omega | (simp at this; omega))) | (go_at_call 54; go_call (HS.out _) as e4 w4 ⟨rfl, hb4⟩; obtain ⟨hc4, hf4⟩ := bcell hb4; have hB4 : Below w.heap.size w w4 := (below_then (by first | (go_grown; done) | (repeat (first | (with_reducible assumption) | (with_reducible exact Below.refl _ _) | (with_reducible refine below_drewN' ?_ _) | (with_reducible refine Below.drew ?_) | ((with_reducible refine Below.alloc ?_ ?_ _); rotate_left; focus (first | (simp; done) | (simp; omega) | omega)) | ((with_reducible refine Below.setCell ?_ ?_ _); rotate_left; focus (first | (simp; done) | (simp; omega) | omega))))) (by first | omega | (simp; done) | (simp; omega)) hb4); have hz4a : w.heap.size < w4.heap.size := (by have := hb4.size; first | omega | (simp at this; omega)); have hz4b : w.heap.size + 1 < w4.heap.size := (by have := hb4.size; first | omega | (simp at this; omega)); have hz4c : w.heap.size + 1 + 1 < w4.heap.size := (by have := hb4.size; first | omega | (simp at this; omega))))
  have HZ1 := Lib.hid (blk_below (blk_below (blk_below (blk_below HZ0.out hb1 (by first | (simp; done) | omega | (simp; omega))) hb2 (by first | (simp; done) | omega | (simp; omega))) hb3 (by first | (simp; done) | omega | (simp; omega))) hb4 (by first | (simp; done) | omega | (simp; omega)))
  have hzw : w.heap.size + 1 + 1 < w4.heap.size := by omega
  have HBF := Lib.hid hB4
  clear hc4 hf4 hb4 hB4 hc3 hf3 hb3 hB3 hc2 hf2 hb2 hB2 hc1 hf1 hb1 hB1
  obtain ⟨z0, z1, z2, zf⟩ := blk3 HZ1.out
  obtain ⟨s0, s1, s2⟩ := res3 HZ1.out (.int .i64 0) (.int .i64 0) (.slice none 0 0)
  go_wp2_with fail
  (try simp only [Exit.inBlock, Exit.then]); refine bodyPost_ret (by simp [results, Try.results24, go_sem, s0, s1, s2]; try rfl) rfl ?_
  exact ⟨_, rfl, Own.nil, HBF.out.trans (by (repeat (first | (with_reducible assumption) | (with_reducible exact Below.refl _ _) | (with_reducible refine below_drewN' ?_ _) | (with_reducible refine Below.drew ?_) | ((with_reducible refine Below.alloc ?_ ?_ _); rotate_left; focus (first | (simp; done) | (simp; omega) | omega)) | ((with_reducible refine Below.setCell ?_ ?_ _); rotate_left; focus (first | (simp; done) | (simp; omega) | omega)))))⟩
set_option maxRecDepth 20000 in
set_option maxHeartbeats 8000000 in
theorem PrintGrid_e (R C : Int) (A : Option Addr) (n cp : Nat) (xs : List Int) (p t q d l : Int) (w : World) (B : Nat) (hr : RI w B A n xs) (hB : B ≤ w.heap.size) (hn : n ≤ 1000000000000000) (h1 : gridB R C xs = true) (h2 : prnB p t q 0 d l = true) (h3 : posB xs = true) (h4 : psK R C p t q 0 d l = 0) :
    Calls Try.prog 24 #[.agg #[.int .i64 R, .int .i64 C, .slice A n cp], .agg #[.int .i64 p, .int .i64 t, .int .i64 q, .int .i64 0, .int .i64 d, .int .i64 l]] w fun e w' => ∃ v, e = .returned (.tuple #[.agg #[.int .i64 ((R + 2 * q) * t), .int .i64 ((C + 2 * q) * p), v], .int .i64 0]) ∧ Own w' w.heap.size v (grdL ((R + 2 * q) * t).toNat ((C + 2 * q) * p).toNat (pixV R C xs p.toNat t.toNat q.toNat d l)) ∧ Below w.heap.size w w' := by
  have HA := Lib.hid (fun (w' : World) (hb : Below w.heap.size w w') => IsGrid_any R C A n cp xs w' w.heap.size ((hr.more hB).below hb) hb.size hn)
  have HPR := Lib.hid (fun w => IsPrint_any p t q 0 d l w)
  have HK := Lib.hid (fun (w' : World) (hb : Below w.heap.size w w') => known_any R C A n cp xs w' w.heap.size ((hr.more hB).below hb) hb.size hn)
  have HS := Lib.hid (fun w => PrintSize_any R C p t q 0 d l w)
  rw [h1] at HA
  rw [h2] at HPR
  rw [h3] at HK
  rw [h4] at HS
  obtain ⟨y1, y2, y3, y4, y5⟩ := gridB_true h1
  obtain ⟨x1, x2, x3, x4, x5, x6, x7⟩ := prnB_true h2
  obtain ⟨b1, b2, b3⟩ := psK_0 h4
  have u1 := prt_bd b1 x3 x2
  have u2 := prt_bd b2 x3 x1
  obtain ⟨g1, g2, g3⟩ := rszB_true b3
  have hnl : (n : Int) = R * C := by rw [← hr.len]; exact y4
  obtain ⟨p, rfl⟩ := Int.eq_ofNat_of_zero_le (show 0 ≤ p by omega)
  obtain ⟨t, rfl⟩ := Int.eq_ofNat_of_zero_le (show 0 ≤ t by omega)
  obtain ⟨q, rfl⟩ := Int.eq_ofNat_of_zero_le (show 0 ≤ q by omega)
  obtain ⟨H, hH⟩ := Int.eq_ofNat_of_zero_le (show 0 ≤ (R + 2 * (q : Int)) * t by omega)
  obtain ⟨V, hV⟩ := Int.eq_ofNat_of_zero_le (show 0 ≤ (C + 2 * (q : Int)) * p by omega)
  rw [hH, hV] at g3
  rw [hH] at g1
  rw [hV] at g2
  have hHV : H * V ≤ 40000 := by rw [← Int.natCast_mul] at g3; omega
  simp only [hH, hV, gK_0] at HS ⊢
  simp only [Int.toNat_natCast]
  have HSO := Lib.hid (fun w => sizeOf_any R C p t q 0 d l w b1 b2 x1 x2 x3)
  simp only [hH, hV] at HSO
  have HRS := Lib.hid (fun (w' : World) (hb : Below w.heap.size w w') => raster_any H V 57 #[.agg #[.int .i64 H, .int .i64 V, .int .i64 p, .int .i64 t, .int .i64 q, .int .i64 0, .int .i64 d, .int .i64 l, .int .i64 R, .int .i64 C, .slice A n cp]] #[] (pixV R C xs p t q d l) w'
    (fun i j hi hj w'' hb'' => by
      have := press_pixel_any H V p t q d l R C A n cp xs i j w'' w.heap.size ((hr.more hB).below (hb.trans (hb''.mono hb.size))) (Nat.le_trans hb.size hb''.size) hnl (by omega) y1 y2 (by omega) (by omega) (by omega) (by omega) (by omega)
      rw [show (#[.agg #[.int .i64 H, .int .i64 V, .int .i64 p, .int .i64 t, .int .i64 q, .int .i64 0, .int .i64 d, .int .i64 l, .int .i64 R, .int .i64 C, .slice A n cp]] ++ (#[.int .i64 (i : Int), .int .i64 (j : Int)] ++ #[]) : Array Value) = #[.agg #[.int .i64 H, .int .i64 V, .int .i64 p, .int .i64 t, .int .i64 q, .int .i64 0, .int .i64 d, .int .i64 l, .int .i64 R, .int .i64 C, .slice A n cp], .int .i64 (i : Int), .int .i64 (j : Int)] from rfl]
      exact this) (fun args w => by kernel_rfl) (by omega) (by omega) hHV)
  generalize grdL H V (pixV R C xs p t q d l) = GL at *
  clear hr h1 h2 h3 h4 y1 y2 y3 y4 y5 x1 x2 x3 x4 x5 x6 x7 b1 b2 b3 u1 u2 g1 g2 g3 hnl hH hV hHV
  have HZ0 : Hid ((((w.alloc (.cells #[.int .i64 R, .int .i64 C, .slice A n cp] 41)).alloc (.cells #[.int .i64 p, .int .i64 t, .int .i64 q, .int .i64 0, .int .i64 d, .int .i64 l] 54)).alloc (.cells #[.int .i64 0, .int .i64 0, .slice none 0 0] 28)).heap[w.heap.size + 1 + 1]? = some (.cells #[.int .i64 0, .int .i64 0, .slice none 0 0] 28 (0, 0))) := Lib.hid (heap_alloc_at (by simp))
  have HG0 : Hid ((((w.alloc (.cells #[.int .i64 R, .int .i64 C, .slice A n cp] 41)).alloc (.cells #[.int .i64 p, .int .i64 t, .int .i64 q, .int .i64 0, .int .i64 d, .int .i64 l] 54)).alloc (.cells #[.int .i64 0, .int .i64 0, .slice none 0 0] 28)).heap[w.heap.size]? = some (.cells #[.int .i64 R, .int .i64 C, .slice A n cp] 41 (0, 0))) := Lib.hid (blk_alloc (blk_alloc (heap_alloc_new _ _) (by simp)) (by simp; omega))
  have HP0 : Hid ((((w.alloc (.cells #[.int .i64 R, .int .i64 C, .slice A n cp] 41)).alloc (.cells #[.int .i64 p, .int .i64 t, .int .i64 q, .int .i64 0, .int .i64 d, .int .i64 l] 54)).alloc (.cells #[.int .i64 0, .int .i64 0, .slice none 0 0] 28)).heap[w.heap.size + 1]? = some (.cells #[.int .i64 p, .int .i64 t, .int .i64 q, .int .i64 0, .int .i64 d, .int .i64 l] 54 (0, 0))) := Lib.hid (blk_alloc (heap_alloc_at (by simp)) (by simp))
  go_enter Try.func24, Try.ntmps24
  go_upto_region 8 with (first | (go_at_call 45; go_call (HA.out _ (by (repeat (first | (with_reducible assumption) | (with_reducible exact Below.refl _ _) | (with_reducible refine below_drewN' ?_ _) | (with_reducible refine Below.drew ?_) | ((with_reducible refine Below.alloc ?_ ?_ _); rotate_left; focus (first | (simp; done) | (simp; omega) | omega)) | ((with_reducible refine Below.setCell ?_ ?_ _); rotate_left; focus (first | (simp; done) | (simp; omega) | omega)))))) as e1 w1 ⟨rfl, hb1⟩; obtain ⟨hc1, hf1⟩ := bcell hb1; have hB1 : Below w.heap.size w w1 := (below_then (by first | (go_grown; done) | (repeat (first | (with_reducible assumption) | (with_reducible exact Below.refl _ _) | (with_reducible refine below_drewN' ?_ _) | (with_reducible refine Below.drew ?_) | ((with_reducible refine Below.alloc ?_ ?_ _); rotate_left; focus (first | (simp; done) | (simp; omega) | omega)) | ((with_reducible refine Below.setCell ?_ ?_ _); rotate_left; focus (first | (simp; done) | (simp; omega) | omega))))) (by first | omega | (simp; done) | (simp; omega)) hb1); have hz1a : w.heap.size < w1.heap.size := (by have := hb1.size; first | omega | (simp at this; omega)); have hz1b : w.heap.size + 1 < w1.heap.size := (by have := hb1.size; first | omega | (simp at this; omega)); have hz1c : w.heap.size + 1 + 1 < w1.heap.size := (by have := hb1.size; first | omega | (simp at this; omega))) | (go_at_call 52; go_call (HPR.out _) as e2 w2 ⟨rfl, hb2⟩; obtain ⟨hc2, hf2⟩ := bcell hb2; have hB2 : Below w.heap.size w w2 := (below_then (by first | (go_grown; done) | (repeat (first | (with_reducible assumption) | (with_reducible exact Below.refl _ _) | (with_reducible refine below_drewN' ?_ _) | (with_reducible refine Below.drew ?_) | ((with_reducible refine Below.alloc ?_ ?_ _); rotate_left; focus (first | (simp; done) | (simp; omega) | omega)) | ((with_reducible refine Below.setCell ?_ ?_ _); rotate_left; focus (first | (simp; done) | (simp; omega) | omega))))) (by first | omega | (simp; done) | (simp; omega)) hb2); have hz2a : w.heap.size < w2.heap.size := (by have := hb2.size; first | omega | (simp at this; omega)); have hz2b : w.heap.size + 1 < w2.heap.size := (by have := hb2.size; first | omega | (simp at this; omega)); have hz2c : w.heap.size + 1 + 1 < w2.heap.size := (by have := hb2.size; first | omega | (simp at this; omega))) | (go_at_call 53; go_call (HK.out _ (by (repeat (first | (with_reducible assumption) | (with_reducible exact Below.refl _ _) | (with_reducible refine below_drewN' ?_ _) | (with_reducible refine Below.drew ?_) | ((with_reducible refine Below.alloc ?_ ?_ _); rotate_left; focus (first | (simp; done) | (simp; omega) | omega)) | ((with_reducible refine Below.setCell ?_ ?_ _); rotate_left; focus (first | (simp; done) | (simp; omega) | omega)))))) as e3 w3 ⟨rfl, hb3⟩; obtain ⟨hc3, hf3⟩ := bcell hb3; have hB3 : Below w.heap.size w w3 := (below_then (by first | (go_grown; done) | (repeat (first | (with_reducible assumption) | (with_reducible exact Below.refl _ _) | (with_reducible refine below_drewN' ?_ _) | (with_reducible refine Below.drew ?_) | ((with_reducible refine Below.alloc ?_ ?_ _); rotate_left; focus (first | (simp; done) | (simp; omega) | omega)) | ((with_reducible refine Below.setCell ?_ ?_ _); rotate_left; focus (first | (simp; done) | (simp; omega) | omega))))) (by first | omega | (simp; done) | (simp; omega)) hb3); have hz3a : w.heap.size < w3.heap.size := (by have := hb3.size; first | omega | (simp at this; omega)); have hz3b : w.heap.size + 1 < w3.heap.size := (by have := hb3.size; first | omega | (simp at this; omega)); have hz3c : w.heap.size + 1 + 1 < w3.heap.size := (by have := hb3.size; first | omega | (simp at this; omega))) | (go_at_call 54; go_call (HS.out _) as e4 w4 ⟨rfl, hb4⟩; obtain ⟨hc4, hf4⟩ := bcell hb4; have hB4 : Below w.heap.size w w4 := (below_then (by first | (go_grown; done) | (repeat (first | (with_reducible assumption) | (with_reducible exact Below.refl _ _) | (with_reducible refine below_drewN' ?_ _) | (with_reducible refine Below.drew ?_) | ((with_reducible refine Below.alloc ?_ ?_ _); rotate_left; focus (first | (simp; done) | (simp; omega) | omega)) | ((with_reducible refine Below.setCell ?_ ?_ _); rotate_left; focus (first | (simp; done) | (simp; omega) | omega))))) (by first | omega | (simp; done) | (simp; omega)) hb4); have hz4a : w.heap.size < w4.heap.size := (by have := hb4.size; first | omega | (simp at this; omega)); have hz4b : w.heap.size + 1 < w4.heap.size := (by have := hb4.size; first | omega | (simp at this; omega)); have hz4c : w.heap.size + 1 + 1 < w4.heap.size := (by have := hb4.size; first | omega | (simp at this; omega))))
  have HZ4 := Lib.hid (blk_below (blk_below (blk_below (blk_below HZ0.out hb1 (by simp)) hb2 (by omega)) hb3 (by omega)) hb4 (by omega))
  have HG4 := Lib.hid (blk_below (blk_below (blk_below (blk_below HG0.out hb1 (by first | (simp; done) | (simp; omega))) hb2 (by omega)) hb3 (by omega)) hb4 (by omega))
  have HP4 := Lib.hid (blk_below (blk_below (blk_below (blk_below HP0.out hb1 (by first | (simp; done) | (simp; omega))) hb2 (by omega)) hb3 (by omega)) hb4 (by omega))
  clear hc1 hf1 hb1 hB1 hc2 hf2 hb2 hB2 hc3 hf3 hb3 hB3 hc4 hf4 hb4
  obtain ⟨a0, a1, a2, -⟩ := blk3 HG4.out
  obtain ⟨q0, q1, q2, q3, q4, q5, -⟩ := blk6p HP4.out
  refine wp_region_qat [] 10 [Mkr.blk (fun g => .pointer (some ⟨g, 0, none⟩)) (.cells #[.int .i64 0, .int .i64 0, .int .i64 0, .int .i64 0, .int .i64 0, .int .i64 0, .int .i64 0, .int .i64 0, .int .i64 0, .int .i64 0, .slice none 0 0] 91)] (by kernel_rfl) (by kernel_rfl) ?_
  intro hbc
  simp only [List.take_succ_cons, List.take_zero, List.drop_succ_cons, List.drop_zero]
  repeat (first
    | refine wpQ_pass rfl ?_
    | (refine wpQ_step rfl (fun K hK => ?_)
       go_simp
       first
         | (refine hK _ ?_; clear hK K)
         | (apply Exists.intro
            refine ⟨fun z => ?_, ?_⟩
            focus (first | (go_at_call 55; with_reducible exact HSO.out _))
            refine hK _ ?_
            clear hK K)))
  refine wpQ_nil ⟨?_, ?_⟩
  · refine ⟨fun z => ?_, rfl⟩
    · set_option maxRecDepth 100000 in refine makes_blk ?_
      go_simp
  intro u5a g5a hi5a hg5a hl5a n5a w5 hb5 hF5
  clear hbc
  obtain ⟨hc5, hf5⟩ := bcell hb5
  obtain ⟨_, hs5a, ⟨rfl, rfl, hF5a⟩⟩ := hF5
  have hB5 : Below w.heap.size w w5 := below_then (by first | (go_grown; done) | (repeat (first | (with_reducible assumption) | (with_reducible exact Below.refl _ _) | (with_reducible refine below_drewN' ?_ _) | (with_reducible refine Below.drew ?_) | ((with_reducible refine Below.alloc ?_ ?_ _); rotate_left; focus (first | (simp; done) | (simp; omega) | omega)) | ((with_reducible refine Below.setCell ?_ ?_ _); rotate_left; focus (first | (simp; done) | (simp; omega) | omega))))) (by first | (simp; done) | (simp; omega) | omega) hb5
  have hz5a : w.heap.size < w5.heap.size := (by have := hb5.size; first | omega | (simp at this; omega))
  have hz5b : w.heap.size + 1 < w5.heap.size := (by have := hb5.size; first | omega | (simp at this; omega))
  have hz5c : w.heap.size + 1 + 1 < w5.heap.size := (by have := hb5.size; first | omega | (simp at this; omega))
  have hcg5a := blk_cell hF5a
  have hfg5a := blk_frozen hF5a
  try simp only [World.size_alloc] at hg5a
  clear n5a
  try simp only [Act.put, List.setIfInBounds_toArray, List.set_cons_succ, List.set_cons_zero]
  have HZ5 := Lib.hid (blk_below HZ4.out hb5 (by omega))
  clear hc5 hf5 hb5 a0 a1 a2 q0 q1 q2 q3 q4 q5
  have HG6 := Lib.hid (res11 hF5a (.int .i64 H) (.int .i64 V) (.int .i64 p) (.int .i64 t) (.int .i64 q) (.int .i64 0) (.int .i64 d) (.int .i64 l) (.int .i64 R) (.int .i64 C) (.slice A n cp))
  have hne : w.heap.size + 1 + 1 ≠ g5a := by omega
  have HZ6 : Hid ((w5 |>.setCell ⟨g5a, 0, none⟩ (.int .i64 H) |>.setCell ⟨g5a, 1, none⟩ (.int .i64 V) |>.setCell ⟨g5a, 2, none⟩ (.int .i64 p) |>.setCell ⟨g5a, 3, none⟩ (.int .i64 t) |>.setCell ⟨g5a, 4, none⟩ (.int .i64 q) |>.setCell ⟨g5a, 5, none⟩ (.int .i64 0) |>.setCell ⟨g5a, 6, none⟩ (.int .i64 d) |>.setCell ⟨g5a, 7, none⟩ (.int .i64 l) |>.setCell ⟨g5a, 8, none⟩ (.int .i64 R) |>.setCell ⟨g5a, 9, none⟩ (.int .i64 C) |>.setCell ⟨g5a, 10, none⟩ (.slice A n cp)).heap[w.heap.size + 1 + 1]? = _) := Lib.hid (blk_other (blk_other (blk_other (blk_other (blk_other (blk_other (blk_other (blk_other (blk_other (blk_other (blk_other HZ5.out hne) hne) hne) hne) hne) hne) hne) hne) hne) hne) hne)
  have hwg : w.heap.size ≤ g5a := by omega
  have HB6 : Hid (Below w.heap.size w (w5 |>.setCell ⟨g5a, 0, none⟩ (.int .i64 H) |>.setCell ⟨g5a, 1, none⟩ (.int .i64 V) |>.setCell ⟨g5a, 2, none⟩ (.int .i64 p) |>.setCell ⟨g5a, 3, none⟩ (.int .i64 t) |>.setCell ⟨g5a, 4, none⟩ (.int .i64 q) |>.setCell ⟨g5a, 5, none⟩ (.int .i64 0) |>.setCell ⟨g5a, 6, none⟩ (.int .i64 d) |>.setCell ⟨g5a, 7, none⟩ (.int .i64 l) |>.setCell ⟨g5a, 8, none⟩ (.int .i64 R) |>.setCell ⟨g5a, 9, none⟩ (.int .i64 C) |>.setCell ⟨g5a, 10, none⟩ (.slice A n cp))) := Lib.hid (Below.setCell (p := ⟨g5a, 10, none⟩) (Below.setCell (p := ⟨g5a, 9, none⟩) (Below.setCell (p := ⟨g5a, 8, none⟩) (Below.setCell (p := ⟨g5a, 7, none⟩) (Below.setCell (p := ⟨g5a, 6, none⟩) (Below.setCell (p := ⟨g5a, 5, none⟩) (Below.setCell (p := ⟨g5a, 4, none⟩) (Below.setCell (p := ⟨g5a, 3, none⟩) (Below.setCell (p := ⟨g5a, 2, none⟩) (Below.setCell (p := ⟨g5a, 1, none⟩) (Below.setCell (p := ⟨g5a, 0, none⟩) hB5 hwg (.int .i64 H)) hwg (.int .i64 V)) hwg (.int .i64 p)) hwg (.int .i64 t)) hwg (.int .i64 q)) hwg (.int .i64 0)) hwg (.int .i64 d)) hwg (.int .i64 l)) hwg (.int .i64 R)) hwg (.int .i64 C)) hwg (.slice A n cp))
  go_upto_region 9 with fail
  generalize (w5 |>.setCell ⟨g5a, 0, none⟩ (.int .i64 H) |>.setCell ⟨g5a, 1, none⟩ (.int .i64 V) |>.setCell ⟨g5a, 2, none⟩ (.int .i64 p) |>.setCell ⟨g5a, 3, none⟩ (.int .i64 t) |>.setCell ⟨g5a, 4, none⟩ (.int .i64 q) |>.setCell ⟨g5a, 5, none⟩ (.int .i64 0) |>.setCell ⟨g5a, 6, none⟩ (.int .i64 d) |>.setCell ⟨g5a, 7, none⟩ (.int .i64 l) |>.setCell ⟨g5a, 8, none⟩ (.int .i64 R) |>.setCell ⟨g5a, 9, none⟩ (.int .i64 C) |>.setCell ⟨g5a, 10, none⟩ (.slice A n cp)) = w6 at *
  clear hB5 hF5a hcg5a hfg5a hB4
  obtain ⟨f0, f1, f2, f3, f4, f5, f6, f7, f8, f9, f10, -⟩ := blk11 HG6.out
  have hb6 := HB6.out
  have hs6 : g5a < w6.heap.size := lt_of_block HG6.out
  go_wp2_with (go_at_call 56; with_reducible refine (HRS.out _ hb6).mono ?_; rintro e7 w7 ⟨v7, rfl, ho7, hb7⟩; have hB7 : Below w.heap.size w w7 := hb6.trans (hb7.mono hb6.size); have HZ7 := Lib.hid (blk_below HZ6.out hb7 (by omega)); obtain ⟨A7, c7, rfl, hr7⟩ := ho7.shape; have HO7 := Lib.hid ho7; clear ho7 hr7 hb7 f0 f1 f2 f3 f4 f5 f6 f7 f8 f9 f10; obtain ⟨z0, z1, z2, zf⟩ := blk3 HZ7.out)
  have hz7 : w.heap.size + 1 + 1 < w6.heap.size := by omega
  obtain ⟨s0, s1, s2⟩ := res3 HZ7.out (.int .i64 H) (.int .i64 V) (.slice A7 GL.length c7)
  (try simp only [Exit.inBlock, Exit.then]); refine bodyPost_ret (by simp [results, Try.results24, go_sem, s0, s1, s2]; try rfl) rfl ?_
  exact ⟨_, rfl, ((((HO7.out.setLt hz7 _).setLt hz7 _).setLt hz7 _)).more (by omega), by (repeat (first | (with_reducible assumption) | (with_reducible exact Below.refl _ _) | (with_reducible refine below_drewN' ?_ _) | (with_reducible refine Below.drew ?_) | ((with_reducible refine Below.alloc ?_ ?_ _); rotate_left; focus (first | (simp; done) | (simp; omega) | omega)) | ((with_reducible refine Below.setCell ?_ ?_ _); rotate_left; focus (first | (simp; done) | (simp; omega) | omega))))⟩
theorem PrintGrid_any (R C : Int) (A : Option Addr) (n cp : Nat) (xs : List Int) (p t q d l : Int) (w : World) (B : Nat) (hr : RI w B A n xs) (hB : B ≤ w.heap.size) (hn : n ≤ 1000000000000000) :
    Calls Try.prog 24 #[.agg #[.int .i64 R, .int .i64 C, .slice A n cp], .agg #[.int .i64 p, .int .i64 t, .int .i64 q, .int .i64 0, .int .i64 d, .int .i64 l]] w fun e w' => ∃ v, e = .returned (.tuple #[.agg #[.int .i64 (gK (prK R C xs p t q d l) ((R + 2 * q) * t)), .int .i64 (gK (prK R C xs p t q d l) ((C + 2 * q) * p)), v], .int .i64 (prK R C xs p t q d l)]) ∧ Own w' w.heap.size v (prL R C xs p t q d l) ∧ Below w.heap.size w w' := by
  unfold prL prK
  cases h1 : gridB R C xs
  · simpa [gK] using PrintGrid_a R C A n cp xs p t q d l w B hr hB hn h1
  cases h2 : prnB p t q 0 d l
  · simpa [gK] using PrintGrid_b R C A n cp xs p t q d l w B hr hB hn h1 h2
  cases h3 : posB xs
  · simpa [gK] using PrintGrid_c R C A n cp xs p t q d l w B hr hB hn h1 h2 h3
  by_cases h4 : psK R C p t q 0 d l = 0
  · simpa [gK, h4] using PrintGrid_e R C A n cp xs p t q d l w B hr hB hn h1 h2 h3 h4
  · simpa [gK, h4] using PrintGrid_d R C A n cp xs p t q d l w B hr hB hn h1 h2 h3 h4

set_option maxHeartbeats 4000000 in
theorem sPrintGrid_a (R C : Int) (A : Option Addr) (n cp : Nat) (xs : List Int) (p t q d l : Int) (w : World) (B : Nat) (hr : RI w B A n xs) (hB : B ≤ w.heap.size) (hn : n ≤ 1000000000000000) (h1 : gridB R C xs = false) :
    Calls Try.prog 67 #[.agg #[.int .i64 R, .int .i64 C, .slice A n cp], .agg #[.int .i64 p, .int .i64 t, .int .i64 q, .int .i64 0, .int .i64 d, .int .i64 l]] w fun e w' => ∃ v, e = .returned (.tuple #[.agg #[.int .i64 0, .int .i64 0, v], .int .i64 1]) ∧ Own w' w.heap.size v ([]) ∧ Below w.heap.size w w' := by
  have HA := Lib.hid (fun (w' : World) (hb : Below w.heap.size w w') => sIsGrid_any R C A n cp xs w' w.heap.size ((hr.more hB).below hb) hb.size hn)
  have HPR := Lib.hid (fun w => sIsPrint_any p t q 0 d l w)
  have HK := Lib.hid (fun (w' : World) (hb : Below w.heap.size w w') => l16Known_any R C A n cp xs w' w.heap.size ((hr.more hB).below hb) hb.size hn)
  have HS := Lib.hid (fun w => sPrintSize_any R C p t q 0 d l w)
  rw [h1] at HA
  clear hr h1
  clear HPR HK HS
  have HZ0 : Hid ((((w.alloc (.cells #[.int .i64 R, .int .i64 C, .slice A n cp] 41)).alloc (.cells #[.int .i64 p, .int .i64 t, .int .i64 q, .int .i64 0, .int .i64 d, .int .i64 l] 54)).alloc (.cells #[.int .i64 0, .int .i64 0, .slice none 0 0] 28)).heap[w.heap.size + 1 + 1]? = some (.cells #[.int .i64 0, .int .i64 0, .slice none 0 0] 28 (0, 0))) := Lib.hid (heap_alloc_at (by simp))
  go_enter Try.func67, Try.ntmps67
  go_upto_region 2 with (first | (go_at_call 47; go_call (HA.out _ (by (repeat (first | (with_reducible assumption) | (with_reducible exact Below.refl _ _) | (with_reducible refine below_drewN' ?_ _) | (with_reducible refine Below.drew ?_) | ((with_reducible refine Below.alloc ?_ ?_ _); rotate_left; focus (first | (simp; done) | (simp; omega) | omega)) | ((with_reducible refine Below.setCell ?_ ?_ _); rotate_left; focus (first | (simp; done) | (simp; omega) | omega)))))) as e1 w1 ⟨rfl, hb1⟩; obtain ⟨hc1, hf1⟩ := bcell hb1; have hB1 : Below w.heap.size w w1 := (below_then (by first | (go_grown; done) | (repeat (first | (with_reducible assumption) | (with_reducible exact Below.refl _ _) | (with_reducible refine below_drewN' ?_ _) | (with_reducible refine Below.drew ?_) | ((with_reducible refine Below.alloc ?_ ?_ _); rotate_left; focus (first | (simp; done) | (simp; omega) | omega)) | ((with_reducible refine Below.setCell ?_ ?_ _); rotate_left; focus (first | (simp; done) | (simp; omega) | omega))))) (by first | omega | (simp; done) | (simp; omega)) hb1); have hz1a : w.heap.size < w1.heap.size := (by have := hb1.size; first | omega | (simp at this; omega)); have hz1b : w.heap.size + 1 < w1.heap.size := (by have := hb1.size; first | omega | (simp at this; omega)); have hz1c : w.heap.size + 1 + 1 < w1.heap.size := (by have := hb1.size; first | omega | (simp at this; omega))))
  have HZ1 := Lib.hid (blk_below HZ0.out hb1 (by first | (simp; done) | omega | (simp; omega)))
  have hzw : w.heap.size + 1 + 1 < w1.heap.size := by omega
  have HBF := Lib.hid hB1
  clear hc1 hf1 hb1 hB1
  obtain ⟨z0, z1, z2, zf⟩ := blk3 HZ1.out
  obtain ⟨s0, s1, s2⟩ := res3 HZ1.out (.int .i64 0) (.int .i64 0) (.slice none 0 0)
  go_wp2_with fail
  (try simp only [Exit.inBlock, Exit.then]); refine bodyPost_ret (by simp [results, Try.results67, go_sem, s0, s1, s2]; try rfl) rfl ?_
  exact ⟨_, rfl, Own.nil, HBF.out.trans (by (repeat (first | (with_reducible assumption) | (with_reducible exact Below.refl _ _) | (with_reducible refine below_drewN' ?_ _) | (with_reducible refine Below.drew ?_) | ((with_reducible refine Below.alloc ?_ ?_ _); rotate_left; focus (first | (simp; done) | (simp; omega) | omega)) | ((with_reducible refine Below.setCell ?_ ?_ _); rotate_left; focus (first | (simp; done) | (simp; omega) | omega)))))⟩
set_option maxHeartbeats 4000000 in
theorem sPrintGrid_b (R C : Int) (A : Option Addr) (n cp : Nat) (xs : List Int) (p t q d l : Int) (w : World) (B : Nat) (hr : RI w B A n xs) (hB : B ≤ w.heap.size) (hn : n ≤ 1000000000000000) (h1 : gridB R C xs = true) (h2 : prnB p t q 0 d l = false) :
    Calls Try.prog 67 #[.agg #[.int .i64 R, .int .i64 C, .slice A n cp], .agg #[.int .i64 p, .int .i64 t, .int .i64 q, .int .i64 0, .int .i64 d, .int .i64 l]] w fun e w' => ∃ v, e = .returned (.tuple #[.agg #[.int .i64 0, .int .i64 0, v], .int .i64 1]) ∧ Own w' w.heap.size v ([]) ∧ Below w.heap.size w w' := by
  have HA := Lib.hid (fun (w' : World) (hb : Below w.heap.size w w') => sIsGrid_any R C A n cp xs w' w.heap.size ((hr.more hB).below hb) hb.size hn)
  have HPR := Lib.hid (fun w => sIsPrint_any p t q 0 d l w)
  have HK := Lib.hid (fun (w' : World) (hb : Below w.heap.size w w') => l16Known_any R C A n cp xs w' w.heap.size ((hr.more hB).below hb) hb.size hn)
  have HS := Lib.hid (fun w => sPrintSize_any R C p t q 0 d l w)
  rw [h1] at HA
  rw [h2] at HPR
  clear hr h1 h2
  clear HK HS
  have HZ0 : Hid ((((w.alloc (.cells #[.int .i64 R, .int .i64 C, .slice A n cp] 41)).alloc (.cells #[.int .i64 p, .int .i64 t, .int .i64 q, .int .i64 0, .int .i64 d, .int .i64 l] 54)).alloc (.cells #[.int .i64 0, .int .i64 0, .slice none 0 0] 28)).heap[w.heap.size + 1 + 1]? = some (.cells #[.int .i64 0, .int .i64 0, .slice none 0 0] 28 (0, 0))) := Lib.hid (heap_alloc_at (by simp))
  go_enter Try.func67, Try.ntmps67
  go_upto_region 2 with (first | (go_at_call 47; go_call (HA.out _ (by (repeat (first | (with_reducible assumption) | (with_reducible exact Below.refl _ _) | (with_reducible refine below_drewN' ?_ _) | (with_reducible refine Below.drew ?_) | ((with_reducible refine Below.alloc ?_ ?_ _); rotate_left; focus (first | (simp; done) | (simp; omega) | omega)) | ((with_reducible refine Below.setCell ?_ ?_ _); rotate_left; focus (first | (simp; done) | (simp; omega) | omega)))))) as e1 w1 ⟨rfl, hb1⟩; obtain ⟨hc1, hf1⟩ := bcell hb1; have hB1 : Below w.heap.size w w1 := (below_then (by first | (go_grown; done) | (repeat (first | (with_reducible assumption) | (with_reducible exact Below.refl _ _) | (with_reducible refine below_drewN' ?_ _) | (with_reducible refine Below.drew ?_) | ((with_reducible refine Below.alloc ?_ ?_ _); rotate_left; focus (first | (simp; done) | (simp; omega) | omega)) | ((with_reducible refine Below.setCell ?_ ?_ _); rotate_left; focus (first | (simp; done) | (simp; omega) | omega))))) (by first | omega | (simp; done) | (simp; omega)) hb1); have hz1a : w.heap.size < w1.heap.size := (by have := hb1.size; first | omega | (simp at this; omega)); have hz1b : w.heap.size + 1 < w1.heap.size := (by have := hb1.size; first | omega | (simp at this; omega)); have hz1c : w.heap.size + 1 + 1 < w1.heap.size := (by have := hb1.size; first | omega | (simp at this; omega))) | (go_at_call 84; go_call (HPR.out _) as e2 w2 ⟨rfl, hb2⟩; obtain ⟨hc2, hf2⟩ := bcell hb2; have hB2 : Below w.heap.size w w2 := (below_then (by first | (go_grown; done) | (repeat (first | (with_reducible assumption) | (with_reducible exact Below.refl _ _) | (with_reducible refine below_drewN' ?_ _) | (with_reducible refine Below.drew ?_) | ((with_reducible refine Below.alloc ?_ ?_ _); rotate_left; focus (first | (simp; done) | (simp; omega) | omega)) | ((with_reducible refine Below.setCell ?_ ?_ _); rotate_left; focus (first | (simp; done) | (simp; omega) | omega))))) (by first | omega | (simp; done) | (simp; omega)) hb2); have hz2a : w.heap.size < w2.heap.size := (by have := hb2.size; first | omega | (simp at this; omega)); have hz2b : w.heap.size + 1 < w2.heap.size := (by have := hb2.size; first | omega | (simp at this; omega)); have hz2c : w.heap.size + 1 + 1 < w2.heap.size := (by have := hb2.size; first | omega | (simp at this; omega))))
  have HZ1 := Lib.hid (blk_below (blk_below HZ0.out hb1 (by first | (simp; done) | omega | (simp; omega))) hb2 (by first | (simp; done) | omega | (simp; omega)))
  have hzw : w.heap.size + 1 + 1 < w2.heap.size := by omega
  have HBF := Lib.hid hB2
  clear hc2 hf2 hb2 hB2 hc1 hf1 hb1 hB1
  obtain ⟨z0, z1, z2, zf⟩ := blk3 HZ1.out
  obtain ⟨s0, s1, s2⟩ := res3 HZ1.out (.int .i64 0) (.int .i64 0) (.slice none 0 0)
  go_wp2_with fail
  (try simp only [Exit.inBlock, Exit.then]); refine bodyPost_ret (by simp [results, Try.results67, go_sem, s0, s1, s2]; try rfl) rfl ?_
  exact ⟨_, rfl, Own.nil, HBF.out.trans (by (repeat (first | (with_reducible assumption) | (with_reducible exact Below.refl _ _) | (with_reducible refine below_drewN' ?_ _) | (with_reducible refine Below.drew ?_) | ((with_reducible refine Below.alloc ?_ ?_ _); rotate_left; focus (first | (simp; done) | (simp; omega) | omega)) | ((with_reducible refine Below.setCell ?_ ?_ _); rotate_left; focus (first | (simp; done) | (simp; omega) | omega)))))⟩
set_option maxHeartbeats 4000000 in
theorem sPrintGrid_c (R C : Int) (A : Option Addr) (n cp : Nat) (xs : List Int) (p t q d l : Int) (w : World) (B : Nat) (hr : RI w B A n xs) (hB : B ≤ w.heap.size) (hn : n ≤ 1000000000000000) (h1 : gridB R C xs = true) (h2 : prnB p t q 0 d l = true) (h3 : posB xs = false) :
    Calls Try.prog 67 #[.agg #[.int .i64 R, .int .i64 C, .slice A n cp], .agg #[.int .i64 p, .int .i64 t, .int .i64 q, .int .i64 0, .int .i64 d, .int .i64 l]] w fun e w' => ∃ v, e = .returned (.tuple #[.agg #[.int .i64 0, .int .i64 0, v], .int .i64 5]) ∧ Own w' w.heap.size v ([]) ∧ Below w.heap.size w w' := by
  have HA := Lib.hid (fun (w' : World) (hb : Below w.heap.size w w') => sIsGrid_any R C A n cp xs w' w.heap.size ((hr.more hB).below hb) hb.size hn)
  have HPR := Lib.hid (fun w => sIsPrint_any p t q 0 d l w)
  have HK := Lib.hid (fun (w' : World) (hb : Below w.heap.size w w') => l16Known_any R C A n cp xs w' w.heap.size ((hr.more hB).below hb) hb.size hn)
  have HS := Lib.hid (fun w => sPrintSize_any R C p t q 0 d l w)
  rw [h1] at HA
  rw [h2] at HPR
  rw [h1, h3] at HK
  clear hr h1 h2 h3
  clear HS
  have HZ0 : Hid ((((w.alloc (.cells #[.int .i64 R, .int .i64 C, .slice A n cp] 41)).alloc (.cells #[.int .i64 p, .int .i64 t, .int .i64 q, .int .i64 0, .int .i64 d, .int .i64 l] 54)).alloc (.cells #[.int .i64 0, .int .i64 0, .slice none 0 0] 28)).heap[w.heap.size + 1 + 1]? = some (.cells #[.int .i64 0, .int .i64 0, .slice none 0 0] 28 (0, 0))) := Lib.hid (heap_alloc_at (by simp))
  go_enter Try.func67, Try.ntmps67
  go_upto_region 4 with (first | (go_at_call 47; go_call (HA.out _ (by (repeat (first | (with_reducible assumption) | (with_reducible exact Below.refl _ _) | (with_reducible refine below_drewN' ?_ _) | (with_reducible refine Below.drew ?_) | ((with_reducible refine Below.alloc ?_ ?_ _); rotate_left; focus (first | (simp; done) | (simp; omega) | omega)) | ((with_reducible refine Below.setCell ?_ ?_ _); rotate_left; focus (first | (simp; done) | (simp; omega) | omega)))))) as e1 w1 ⟨rfl, hb1⟩; obtain ⟨hc1, hf1⟩ := bcell hb1; have hB1 : Below w.heap.size w w1 := (below_then (by first | (go_grown; done) | (repeat (first | (with_reducible assumption) | (with_reducible exact Below.refl _ _) | (with_reducible refine below_drewN' ?_ _) | (with_reducible refine Below.drew ?_) | ((with_reducible refine Below.alloc ?_ ?_ _); rotate_left; focus (first | (simp; done) | (simp; omega) | omega)) | ((with_reducible refine Below.setCell ?_ ?_ _); rotate_left; focus (first | (simp; done) | (simp; omega) | omega))))) (by first | omega | (simp; done) | (simp; omega)) hb1); have hz1a : w.heap.size < w1.heap.size := (by have := hb1.size; first | omega | (simp at this; omega)); have hz1b : w.heap.size + 1 < w1.heap.size := (by have := hb1.size; first | omega | (simp at this; omega)); have hz1c : w.heap.size + 1 + 1 < w1.heap.size := (by have := hb1.size; first | omega | (simp at this; omega))) | (go_at_call 84; go_call (HPR.out _) as e2 w2 ⟨rfl, hb2⟩; obtain ⟨hc2, hf2⟩ := bcell hb2; have hB2 : Below w.heap.size w w2 := (below_then (by first | (go_grown; done) | (repeat (first | (with_reducible assumption) | (with_reducible exact Below.refl _ _) | (with_reducible refine below_drewN' ?_ _) | (with_reducible refine Below.drew ?_) | ((with_reducible refine Below.alloc ?_ ?_ _); rotate_left; focus (first | (simp; done) | (simp; omega) | omega)) | ((with_reducible refine Below.setCell ?_ ?_ _); rotate_left; focus (first | (simp; done) | (simp; omega) | omega))))) (by first | omega | (simp; done) | (simp; omega)) hb2); have hz2a : w.heap.size < w2.heap.size := (by have := hb2.size; first | omega | (simp at this; omega)); have hz2b : w.heap.size + 1 < w2.heap.size := (by have := hb2.size; first | omega | (simp at this; omega)); have hz2c : w.heap.size + 1 + 1 < w2.heap.size := (by have := hb2.size; first | omega | (simp at this; omega))) | (go_at_call 66; go_call (HK.out _ (by (repeat (first | (with_reducible assumption) | (with_reducible exact Below.refl _ _) | (with_reducible refine below_drewN' ?_ _) | (with_reducible refine Below.drew ?_) | ((with_reducible refine Below.alloc ?_ ?_ _); rotate_left; focus (first | (simp; done) | (simp; omega) | omega)) | ((with_reducible refine Below.setCell ?_ ?_ _); rotate_left; focus (first | (simp; done) | (simp; omega) | omega)))))) as e3 w3 ⟨rfl, hb3⟩; obtain ⟨hc3, hf3⟩ := bcell hb3; have hB3 : Below w.heap.size w w3 := (below_then (by first | (go_grown; done) | (repeat (first | (with_reducible assumption) | (with_reducible exact Below.refl _ _) | (with_reducible refine below_drewN' ?_ _) | (with_reducible refine Below.drew ?_) | ((with_reducible refine Below.alloc ?_ ?_ _); rotate_left; focus (first | (simp; done) | (simp; omega) | omega)) | ((with_reducible refine Below.setCell ?_ ?_ _); rotate_left; focus (first | (simp; done) | (simp; omega) | omega))))) (by first | omega | (simp; done) | (simp; omega)) hb3); have hz3a : w.heap.size < w3.heap.size := (by have := hb3.size; first | omega | (simp at this; omega)); have hz3b : w.heap.size + 1 < w3.heap.size := (by have := hb3.size; first | omega | (simp at this; omega)); have hz3c : w.heap.size + 1 + 1 < w3.heap.size := (by have := hb3.size; first | omega | (simp at this; omega))))
  have HZ1 := Lib.hid (blk_below (blk_below (blk_below HZ0.out hb1 (by first | (simp; done) | omega | (simp; omega))) hb2 (by first | (simp; done) | omega | (simp; omega))) hb3 (by first | (simp; done) | omega | (simp; omega)))
  have hzw : w.heap.size + 1 + 1 < w3.heap.size := by omega
  have HBF := Lib.hid hB3
  clear hc3 hf3 hb3 hB3 hc2 hf2 hb2 hB2 hc1 hf1 hb1 hB1
  obtain ⟨z0, z1, z2, zf⟩ := blk3 HZ1.out
  obtain ⟨s0, s1, s2⟩ := res3 HZ1.out (.int .i64 0) (.int .i64 0) (.slice none 0 0)
  go_wp2_with fail
  (try simp only [Exit.inBlock, Exit.then]); refine bodyPost_ret (by simp [results, Try.results67, go_sem, s0, s1, s2]; try rfl) rfl ?_
  exact ⟨_, rfl, Own.nil, HBF.out.trans (by (repeat (first | (with_reducible assumption) | (with_reducible exact Below.refl _ _) | (with_reducible refine below_drewN' ?_ _) | (with_reducible refine Below.drew ?_) | ((with_reducible refine Below.alloc ?_ ?_ _); rotate_left; focus (first | (simp; done) | (simp; omega) | omega)) | ((with_reducible refine Below.setCell ?_ ?_ _); rotate_left; focus (first | (simp; done) | (simp; omega) | omega)))))⟩
set_option maxHeartbeats 4000000 in
theorem sPrintGrid_d (R C : Int) (A : Option Addr) (n cp : Nat) (xs : List Int) (p t q d l : Int) (w : World) (B : Nat) (hr : RI w B A n xs) (hB : B ≤ w.heap.size) (hn : n ≤ 1000000000000000) (h1 : gridB R C xs = true) (h2 : prnB p t q 0 d l = true) (h3 : posB xs = true) (h4 : psK R C p t q 0 d l ≠ 0) :
    Calls Try.prog 67 #[.agg #[.int .i64 R, .int .i64 C, .slice A n cp], .agg #[.int .i64 p, .int .i64 t, .int .i64 q, .int .i64 0, .int .i64 d, .int .i64 l]] w fun e w' => ∃ v, e = .returned (.tuple #[.agg #[.int .i64 0, .int .i64 0, v], .int .i64 (psK R C p t q 0 d l)]) ∧ Own w' w.heap.size v ([]) ∧ Below w.heap.size w w' := by
  have HA := Lib.hid (fun (w' : World) (hb : Below w.heap.size w w') => sIsGrid_any R C A n cp xs w' w.heap.size ((hr.more hB).below hb) hb.size hn)
  have HPR := Lib.hid (fun w => sIsPrint_any p t q 0 d l w)
  have HK := Lib.hid (fun (w' : World) (hb : Below w.heap.size w w') => l16Known_any R C A n cp xs w' w.heap.size ((hr.more hB).below hb) hb.size hn)
  have HS := Lib.hid (fun w => sPrintSize_any R C p t q 0 d l w)
  rw [h1] at HA
  rw [h2] at HPR
  rw [h1, h3] at HK
  have h5 : (psK R C p t q 0 d l != 0) = true := by simpa using h4
  rw [gK_no h4, gK_no h4] at HS
  generalize psK R C p t q 0 d l = K at *
  clear hr h1 h2 h3 h4
  have HZ0 : Hid ((((w.alloc (.cells #[.int .i64 R, .int .i64 C, .slice A n cp] 41)).alloc (.cells #[.int .i64 p, .int .i64 t, .int .i64 q, .int .i64 0, .int .i64 d, .int .i64 l] 54)).alloc (.cells #[.int .i64 0, .int .i64 0, .slice none 0 0] 28)).heap[w.heap.size + 1 + 1]? = some (.cells #[.int .i64 0, .int .i64 0, .slice none 0 0] 28 (0, 0))) := Lib.hid (heap_alloc_at (by simp))
  go_enter Try.func67, Try.ntmps67
  go_upto_region 7 with (first | (go_at_call 47; go_call (HA.out _ (by (repeat (first | (with_reducible assumption) | (with_reducible exact Below.refl _ _) | (with_reducible refine below_drewN' ?_ _) | (with_reducible refine Below.drew ?_) | ((with_reducible refine Below.alloc ?_ ?_ _); rotate_left; focus (first | (simp; done) | (simp; omega) | omega)) | ((with_reducible refine Below.setCell ?_ ?_ _); rotate_left; focus (first | (simp; done) | (simp; omega) | omega)))))) as e1 w1 ⟨rfl, hb1⟩; obtain ⟨hc1, hf1⟩ := bcell hb1; have hB1 : Below w.heap.size w w1 := (below_then (by first | (go_grown; done) | (repeat (first | (with_reducible assumption) | (with_reducible exact Below.refl _ _) | (with_reducible refine below_drewN' ?_ _) | (with_reducible refine Below.drew ?_) | ((with_reducible refine Below.alloc ?_ ?_ _); rotate_left; focus (first | (simp; done) | (simp; omega) | omega)) | ((with_reducible refine Below.setCell ?_ ?_ _); rotate_left; focus (first | (simp; done) | (simp; omega) | omega))))) (by first | omega | (simp; done) | (simp; omega)) hb1); have hz1a : w.heap.size < w1.heap.size := (by have := hb1.size; first | omega | (simp at this; omega)); have hz1b : w.heap.size + 1 < w1.heap.size := (by have := hb1.size; first | omega | (simp at this; omega)); have hz1c : w.heap.size + 1 + 1 < w1.heap.size := (by have := hb1.size; first | omega | (simp at this; omega))) | (go_at_call 84; go_call (HPR.out _) as e2 w2 ⟨rfl, hb2⟩; obtain ⟨hc2, hf2⟩ := bcell hb2; have hB2 : Below w.heap.size w w2 := (below_then (by first | (go_grown; done) | (repeat (first | (with_reducible assumption) | (with_reducible exact Below.refl _ _) | (with_reducible refine below_drewN' ?_ _) | (with_reducible refine Below.drew ?_) | ((with_reducible refine Below.alloc ?_ ?_ _); rotate_left; focus (first | (simp; done) | (simp; omega) | omega)) | ((with_reducible refine Below.setCell ?_ ?_ _); rotate_left; focus (first | (simp; done) | (simp; omega) | omega))))) (by first | omega | (simp; done) | (simp; omega)) hb2); have hz2a : w.heap.size < w2.heap.size := (by have := hb2.size; first | omega | (simp at this; omega)); have hz2b : w.heap.size + 1 < w2.heap.size := (by have := hb2.size; first | omega | (simp at this; omega)); have hz2c : w.heap.size + 1 + 1 < w2.heap.size := (by have := hb2.size; first | omega | (simp at this; omega))) | (go_at_call 66; go_call (HK.out _ (by (repeat (first | (with_reducible assumption) | (with_reducible exact Below.refl _ _) | (with_reducible refine below_drewN' ?_ _) | (with_reducible refine Below.drew ?_) | ((with_reducible refine Below.alloc ?_ ?_ _); rotate_left; focus (first | (simp; done) | (simp; omega) | omega)) | ((with_reducible refine Below.setCell ?_ ?_ _); rotate_left; focus (first | (simp; done) | (simp; omega) | omega)))))) as e3 w3 ⟨rfl, hb3⟩; obtain ⟨hc3, hf3⟩ := bcell hb3; have hB3 : Below w.heap.size w w3 := (below_then (by first | (go_grown; done) | (repeat (first | (with_reducible assumption) | (with_reducible exact Below.refl _ _) | (with_reducible refine below_drewN' ?_ _) | (with_reducible refine Below.drew ?_) | ((with_reducible refine Below.alloc ?_ ?_ _); rotate_left; focus (first | (simp; done) | (simp; omega) | omega)) | ((with_reducible refine Below.setCell ?_ ?_ _); rotate_left; focus (first | (simp; done) | (simp; omega) | omega))))) (by first | omega | (simp; done) | (simp; omega)) hb3); have hz3a : w.heap.size < w3.heap.size := (by have := hb3.size; first | omega | (simp at this; omega)); have hz3b : w.heap.size + 1 < w3.heap.size := (by have := hb3.size; first | omega | (simp at this; omega)); have hz3c : w.heap.size + 1 + 1 < w3.heap.size := (by have := hb3.size; first | omega | (simp at this; omega))) | (go_at_call 85; go_call (HS.out _) as e4 w4 ⟨rfl, hb4⟩; obtain ⟨hc4, hf4⟩ := bcell hb4; have hB4 : Below w.heap.size w w4 := (below_then (by first | (go_grown; done) | (repeat (first | (with_reducible assumption) | (with_reducible exact Below.refl _ _) | (with_reducible refine below_drewN' ?_ _) | (with_reducible refine Below.drew ?_) | ((with_reducible refine Below.alloc ?_ ?_ _); rotate_left; focus (first | (simp; done) | (simp; omega) | omega)) | ((with_reducible refine Below.setCell ?_ ?_ _); rotate_left; focus (first | (simp; done) | (simp; omega) | omega))))) (by first | omega | (simp; done) | (simp; omega)) hb4); have hz4a : w.heap.size < w4.heap.size := (by have := hb4.size; first | omega | (simp at this; omega)); have hz4b : w.heap.size + 1 < w4.heap.size := (by have := hb4.size; first | omega | (simp at this; omega)); have hz4c : w.heap.size + 1 + 1 < w4.heap.size := (by have := hb4.size; first | omega | (simp at this; omega))))
  have HZ1 := Lib.hid (blk_below (blk_below (blk_below (blk_below HZ0.out hb1 (by first | (simp; done) | omega | (simp; omega))) hb2 (by first | (simp; done) | omega | (simp; omega))) hb3 (by first | (simp; done) | omega | (simp; omega))) hb4 (by first | (simp; done) | omega | (simp; omega)))
  have hzw : w.heap.size + 1 + 1 < w4.heap.size := by omega
  have HBF := Lib.hid hB4
  clear hc4 hf4 hb4 hB4 hc3 hf3 hb3 hB3 hc2 hf2 hb2 hB2 hc1 hf1 hb1 hB1
  obtain ⟨z0, z1, z2, zf⟩ := blk3 HZ1.out
  obtain ⟨s0, s1, s2⟩ := res3 HZ1.out (.int .i64 0) (.int .i64 0) (.slice none 0 0)
  go_wp2_with fail
  (try simp only [Exit.inBlock, Exit.then]); refine bodyPost_ret (by simp [results, Try.results67, go_sem, s0, s1, s2]; try rfl) rfl ?_
  exact ⟨_, rfl, Own.nil, HBF.out.trans (by (repeat (first | (with_reducible assumption) | (with_reducible exact Below.refl _ _) | (with_reducible refine below_drewN' ?_ _) | (with_reducible refine Below.drew ?_) | ((with_reducible refine Below.alloc ?_ ?_ _); rotate_left; focus (first | (simp; done) | (simp; omega) | omega)) | ((with_reducible refine Below.setCell ?_ ?_ _); rotate_left; focus (first | (simp; done) | (simp; omega) | omega)))))⟩
set_option maxRecDepth 20000 in
set_option maxHeartbeats 8000000 in
theorem sPrintGrid_e (R C : Int) (A : Option Addr) (n cp : Nat) (xs : List Int) (p t q d l : Int) (w : World) (B : Nat) (hr : RI w B A n xs) (hB : B ≤ w.heap.size) (hn : n ≤ 1000000000000000) (h1 : gridB R C xs = true) (h2 : prnB p t q 0 d l = true) (h3 : posB xs = true) (h4 : psK R C p t q 0 d l = 0) :
    Calls Try.prog 67 #[.agg #[.int .i64 R, .int .i64 C, .slice A n cp], .agg #[.int .i64 p, .int .i64 t, .int .i64 q, .int .i64 0, .int .i64 d, .int .i64 l]] w fun e w' => ∃ v, e = .returned (.tuple #[.agg #[.int .i64 ((R + 2 * q) * t), .int .i64 ((C + 2 * q) * p), v], .int .i64 0]) ∧ Own w' w.heap.size v (grdL ((R + 2 * q) * t).toNat ((C + 2 * q) * p).toNat (pixV R C xs p.toNat t.toNat q.toNat d l)) ∧ Below w.heap.size w w' := by
  have HA := Lib.hid (fun (w' : World) (hb : Below w.heap.size w w') => sIsGrid_any R C A n cp xs w' w.heap.size ((hr.more hB).below hb) hb.size hn)
  have HPR := Lib.hid (fun w => sIsPrint_any p t q 0 d l w)
  have HK := Lib.hid (fun (w' : World) (hb : Below w.heap.size w w') => l16Known_any R C A n cp xs w' w.heap.size ((hr.more hB).below hb) hb.size hn)
  have HS := Lib.hid (fun w => sPrintSize_any R C p t q 0 d l w)
  rw [h1] at HA
  rw [h2] at HPR
  rw [h1, h3] at HK
  rw [h4] at HS
  obtain ⟨y1, y2, y3, y4, y5⟩ := gridB_true h1
  obtain ⟨x1, x2, x3, x4, x5, x6, x7⟩ := prnB_true h2
  obtain ⟨b1, b2, b3⟩ := psK_0 h4
  have u1 := prt_bd b1 x3 x2
  have u2 := prt_bd b2 x3 x1
  obtain ⟨g1, g2, g3⟩ := rszB_true b3
  have hnl : (n : Int) = R * C := by rw [← hr.len]; exact y4
  obtain ⟨p, rfl⟩ := Int.eq_ofNat_of_zero_le (show 0 ≤ p by omega)
  obtain ⟨t, rfl⟩ := Int.eq_ofNat_of_zero_le (show 0 ≤ t by omega)
  obtain ⟨q, rfl⟩ := Int.eq_ofNat_of_zero_le (show 0 ≤ q by omega)
  obtain ⟨H, hH⟩ := Int.eq_ofNat_of_zero_le (show 0 ≤ (R + 2 * (q : Int)) * t by omega)
  obtain ⟨V, hV⟩ := Int.eq_ofNat_of_zero_le (show 0 ≤ (C + 2 * (q : Int)) * p by omega)
  rw [hH, hV] at g3
  rw [hH] at g1
  rw [hV] at g2
  have hHV : H * V ≤ 40000 := by rw [← Int.natCast_mul] at g3; omega
  simp only [hH, hV, gK_0] at HS ⊢
  simp only [Int.toNat_natCast]
  have HPX := Lib.hid (fun (i j : Nat) (hi : i < H) (hj : j < V) (w' : World) (hb : Below w.heap.size w w') => l21Pixel_any p t q d l R C A n cp xs i j w' w.heap.size ((hr.more hB).below hb) hb.size hnl (by omega) y1 y2 (by omega) (by omega) (by omega) (by omega) (by omega))
  obtain ⟨f, hf⟩ : ∃ f : Nat → Nat → Int, f = pixV R C xs p t q d l := ⟨_, rfl⟩
  obtain ⟨D, hD⟩ : ∃ D : Nat → Nat → Bool, D = fun i j => dkB R C xs (((i / t : Nat) : Int) - (q : Int)) (((j / p : Nat) : Int) - (q : Int)) := ⟨_, rfl⟩
  have HFD : Hid (∀ i j, f i j = if D i j then d else l) := Lib.hid (fun i j => by rw [hf, hD]; rfl)
  have HPX' : Hid (∀ i j : Nat, i < H → j < V → ∀ w', Below w.heap.size w w' → Calls Try.prog 86 #[.agg #[.int .i64 R, .int .i64 C, .slice A n cp], .agg #[.int .i64 p, .int .i64 t, .int .i64 q, .int .i64 0, .int .i64 d, .int .i64 l], .int .i64 i, .int .i64 j] w' fun e w'' => e = .returned (.bool (D i j)) ∧ Below w'.heap.size w' w'') := Lib.hid (fun i j hi hj w' hb => by rw [hD]; exact HPX.out i j hi hj w' hb)
  rw [← hf]
  obtain ⟨i0, hi⟩ := info_own' info_i64s
  have HI := Lib.hid (And.intro i0.bytes.le_refl hi)
  clear hi hf hD HPX
  obtain ⟨N, hN⟩ : ∃ N, N = H * V := ⟨_, rfl⟩
  have HN := Lib.hid hN
  have hNb : N ≤ 40000 := by omega
  have hGl : Hid ((grdL H V f).length = N) := Lib.hid ((grdL_len H V f).trans hN.symm)
  clear hr h1 h2 h3 h4 y1 y2 y3 y4 y5 x1 x2 x3 x4 x5 x6 x7 b1 b2 b3 u1 u2 hnl hH hV hHV hN
  have HZ0 : Hid ((((w.alloc (.cells #[.int .i64 R, .int .i64 C, .slice A n cp] 41)).alloc (.cells #[.int .i64 p, .int .i64 t, .int .i64 q, .int .i64 0, .int .i64 d, .int .i64 l] 54)).alloc (.cells #[.int .i64 0, .int .i64 0, .slice none 0 0] 28)).heap[w.heap.size + 1 + 1]? = some (.cells #[.int .i64 0, .int .i64 0, .slice none 0 0] 28 (0, 0))) := Lib.hid (heap_alloc_at (by simp))
  have HG0 : Hid ((((w.alloc (.cells #[.int .i64 R, .int .i64 C, .slice A n cp] 41)).alloc (.cells #[.int .i64 p, .int .i64 t, .int .i64 q, .int .i64 0, .int .i64 d, .int .i64 l] 54)).alloc (.cells #[.int .i64 0, .int .i64 0, .slice none 0 0] 28)).heap[w.heap.size]? = some (.cells #[.int .i64 R, .int .i64 C, .slice A n cp] 41 (0, 0))) := Lib.hid (blk_alloc (blk_alloc (heap_alloc_new _ _) (by simp)) (by simp; omega))
  have HP0 : Hid ((((w.alloc (.cells #[.int .i64 R, .int .i64 C, .slice A n cp] 41)).alloc (.cells #[.int .i64 p, .int .i64 t, .int .i64 q, .int .i64 0, .int .i64 d, .int .i64 l] 54)).alloc (.cells #[.int .i64 0, .int .i64 0, .slice none 0 0] 28)).heap[w.heap.size + 1]? = some (.cells #[.int .i64 p, .int .i64 t, .int .i64 q, .int .i64 0, .int .i64 d, .int .i64 l] 54 (0, 0))) := Lib.hid (blk_alloc (heap_alloc_at (by simp)) (by simp))
  go_enter Try.func67, Try.ntmps67
  go_upto_region 8 with (first | (go_at_call 47; go_call (HA.out _ (by (repeat (first | (with_reducible assumption) | (with_reducible exact Below.refl _ _) | (with_reducible refine below_drewN' ?_ _) | (with_reducible refine Below.drew ?_) | ((with_reducible refine Below.alloc ?_ ?_ _); rotate_left; focus (first | (simp; done) | (simp; omega) | omega)) | ((with_reducible refine Below.setCell ?_ ?_ _); rotate_left; focus (first | (simp; done) | (simp; omega) | omega)))))) as e1 w1 ⟨rfl, hb1⟩; obtain ⟨hc1, hf1⟩ := bcell hb1; have hB1 : Below w.heap.size w w1 := (below_then (by first | (go_grown; done) | (repeat (first | (with_reducible assumption) | (with_reducible exact Below.refl _ _) | (with_reducible refine below_drewN' ?_ _) | (with_reducible refine Below.drew ?_) | ((with_reducible refine Below.alloc ?_ ?_ _); rotate_left; focus (first | (simp; done) | (simp; omega) | omega)) | ((with_reducible refine Below.setCell ?_ ?_ _); rotate_left; focus (first | (simp; done) | (simp; omega) | omega))))) (by first | omega | (simp; done) | (simp; omega)) hb1); have hz1a : w.heap.size < w1.heap.size := (by have := hb1.size; first | omega | (simp at this; omega)); have hz1b : w.heap.size + 1 < w1.heap.size := (by have := hb1.size; first | omega | (simp at this; omega)); have hz1c : w.heap.size + 1 + 1 < w1.heap.size := (by have := hb1.size; first | omega | (simp at this; omega))) | (go_at_call 84; go_call (HPR.out _) as e2 w2 ⟨rfl, hb2⟩; obtain ⟨hc2, hf2⟩ := bcell hb2; have hB2 : Below w.heap.size w w2 := (below_then (by first | (go_grown; done) | (repeat (first | (with_reducible assumption) | (with_reducible exact Below.refl _ _) | (with_reducible refine below_drewN' ?_ _) | (with_reducible refine Below.drew ?_) | ((with_reducible refine Below.alloc ?_ ?_ _); rotate_left; focus (first | (simp; done) | (simp; omega) | omega)) | ((with_reducible refine Below.setCell ?_ ?_ _); rotate_left; focus (first | (simp; done) | (simp; omega) | omega))))) (by first | omega | (simp; done) | (simp; omega)) hb2); have hz2a : w.heap.size < w2.heap.size := (by have := hb2.size; first | omega | (simp at this; omega)); have hz2b : w.heap.size + 1 < w2.heap.size := (by have := hb2.size; first | omega | (simp at this; omega)); have hz2c : w.heap.size + 1 + 1 < w2.heap.size := (by have := hb2.size; first | omega | (simp at this; omega))) | (go_at_call 66; go_call (HK.out _ (by (repeat (first | (with_reducible assumption) | (with_reducible exact Below.refl _ _) | (with_reducible refine below_drewN' ?_ _) | (with_reducible refine Below.drew ?_) | ((with_reducible refine Below.alloc ?_ ?_ _); rotate_left; focus (first | (simp; done) | (simp; omega) | omega)) | ((with_reducible refine Below.setCell ?_ ?_ _); rotate_left; focus (first | (simp; done) | (simp; omega) | omega)))))) as e3 w3 ⟨rfl, hb3⟩; obtain ⟨hc3, hf3⟩ := bcell hb3; have hB3 : Below w.heap.size w w3 := (below_then (by first | (go_grown; done) | (repeat (first | (with_reducible assumption) | (with_reducible exact Below.refl _ _) | (with_reducible refine below_drewN' ?_ _) | (with_reducible refine Below.drew ?_) | ((with_reducible refine Below.alloc ?_ ?_ _); rotate_left; focus (first | (simp; done) | (simp; omega) | omega)) | ((with_reducible refine Below.setCell ?_ ?_ _); rotate_left; focus (first | (simp; done) | (simp; omega) | omega))))) (by first | omega | (simp; done) | (simp; omega)) hb3); have hz3a : w.heap.size < w3.heap.size := (by have := hb3.size; first | omega | (simp at this; omega)); have hz3b : w.heap.size + 1 < w3.heap.size := (by have := hb3.size; first | omega | (simp at this; omega)); have hz3c : w.heap.size + 1 + 1 < w3.heap.size := (by have := hb3.size; first | omega | (simp at this; omega))) | (go_at_call 85; go_call (HS.out _) as e4 w4 ⟨rfl, hb4⟩; obtain ⟨hc4, hf4⟩ := bcell hb4; have hB4 : Below w.heap.size w w4 := (below_then (by first | (go_grown; done) | (repeat (first | (with_reducible assumption) | (with_reducible exact Below.refl _ _) | (with_reducible refine below_drewN' ?_ _) | (with_reducible refine Below.drew ?_) | ((with_reducible refine Below.alloc ?_ ?_ _); rotate_left; focus (first | (simp; done) | (simp; omega) | omega)) | ((with_reducible refine Below.setCell ?_ ?_ _); rotate_left; focus (first | (simp; done) | (simp; omega) | omega))))) (by first | omega | (simp; done) | (simp; omega)) hb4); have hz4a : w.heap.size < w4.heap.size := (by have := hb4.size; first | omega | (simp at this; omega)); have hz4b : w.heap.size + 1 < w4.heap.size := (by have := hb4.size; first | omega | (simp at this; omega)); have hz4c : w.heap.size + 1 + 1 < w4.heap.size := (by have := hb4.size; first | omega | (simp at this; omega))))
  have HZ4 := Lib.hid (blk_below (blk_below (blk_below (blk_below HZ0.out hb1 (by simp)) hb2 (by omega)) hb3 (by omega)) hb4 (by omega))
  have HG4 := Lib.hid (blk_below (blk_below (blk_below (blk_below HG0.out hb1 (by first | (simp; done) | (simp; omega))) hb2 (by omega)) hb3 (by omega)) hb4 (by omega))
  have HP4 := Lib.hid (blk_below (blk_below (blk_below (blk_below HP0.out hb1 (by first | (simp; done) | (simp; omega))) hb2 (by omega)) hb3 (by omega)) hb4 (by omega))
  have HW := Lib.hid hB4
  have hs4 : w.heap.size + 1 + 1 < w4.heap.size := by omega
  clear hc1 hf1 hb1 hB1 hc2 hf2 hb2 hB2 hc3 hf3 hb3 hB3 hc4 hf4 hb4 hB4
  have HE : Hid (Own (w4.alloc (.cells #[] 2)) w4.heap.size (.slice (some ⟨w4.heap.size, 0, none⟩) 0 0) []) := Lib.hid (by
    have := World.ownsRow_made (e := 2) (size := 1) (base := w4.heap.size) w4 #[] 0 (Nat.le_refl _) (by unfold maxLen; omega) rfl
    simpa [Own] using this)
  go_wp2_with fail
  go_loopw [9, 10] (fun out row wr => ∃ k : Nat, k ≤ H ∧ row = .int .i64 k ∧ Hid (Own wr w4.heap.size out ((grdL H V f).take (k * V))) ∧ Hid (Below w4.heap.size w4 wr))
    (fun _ row _ => H - (intOf row).toNat)
  case atStart => exact ⟨0, Nat.zero_le _, rfl, Lib.hid (by simpa using HE.out), Lib.hid ((Below.refl _ _).alloc (Nat.le_refl _) _)⟩
  case round =>
    obtain ⟨k, hk, rfl, hown0, hbel0⟩ := hrel
    by_cases hlt : k < H
    · have hki : (k : Int) < (H : Int) := by omega
      go_wp2_with fail
      go_loopw [9, 11, 12] (fun out col gy wr => ∃ j : Nat, j ≤ V ∧ col = .int .i64 j ∧ Hid (Own wr w4.heap.size out ((grdL H V f).take (k * V + j))) ∧ Hid (Below w4.heap.size w4 wr))
        (fun _ col _ _ => V - (intOf col).toNat)
      case atStart => exact ⟨0, Nat.zero_le _, rfl, hown0, hbel0⟩
      case round =>
        rename World => wo
        obtain ⟨j, hj, rfl, hown, hbel⟩ := hrel
        by_cases hlt2 : j < V
        · have hji : (j : Int) < (V : Int) := by omega
          have hszo := hbel.out.size
          have hBo : Below w.heap.size w wo := HW.out.trans (hbel.out.mono (by omega))
          have hst := grdL_nth (f := f) hlt hlt2
          have hlen : k * V + j < (grdL H V f).length := by rw [grdL_len]; exact cell_lt2 hlt hlt2
          have htk := take_nth hlen
          rw [hst] at htk
          have HT0 := Lib.hid htk
          have HL : Hid (((grdL H V f).take (k * V + j)).length ≤ 40000) := Lib.hid (by rw [List.length_take, hGl.out]; omega)
          have HFK := Lib.hid (fun w' hb => HPX'.out k j hlt hlt2 w' hb)
          have HFV := Lib.hid (HFD.out k j)
          have hGo := blk_below HG4.out hbel.out (by omega)
          have hPo := blk_below HP4.out hbel.out (by omega)
          obtain ⟨a0, a1, a2, -⟩ := blk3 hGo
          obtain ⟨q0, q1, q2, q3, q4, q5, -⟩ := blk6p hPo
          have HPO := Lib.hid hPo
          have hzo : w.heap.size + 1 < wo.heap.size := by omega
          clear hst hlen htk hGo hPo
          generalize f k j = FV at *
          generalize D k j = DV at *
          cases DV
          all_goals
            go_wp2_with fail
            (go_at_call 86; go_call (HFK.out _ (by (repeat (first | (with_reducible assumption) | (with_reducible exact Below.refl _ _) | (with_reducible refine below_drewN' ?_ _) | (with_reducible refine Below.drew ?_) | ((with_reducible refine Below.alloc ?_ ?_ _); rotate_left; focus (first | (simp; done) | (simp; omega) | omega)) | ((with_reducible refine Below.setCell ?_ ?_ _); rotate_left; focus (first | (simp; done) | (simp; omega) | omega)))))) as e5 w5 ⟨rfl, hb5⟩; obtain ⟨hc5, hf5⟩ := bcell hb5; have hB5 : Below w.heap.size w w5 := (below_then (by first | (go_grown; done) | (repeat (first | (with_reducible assumption) | (with_reducible exact Below.refl _ _) | (with_reducible refine below_drewN' ?_ _) | (with_reducible refine Below.drew ?_) | ((with_reducible refine Below.alloc ?_ ?_ _); rotate_left; focus (first | (simp; done) | (simp; omega) | omega)) | ((with_reducible refine Below.setCell ?_ ?_ _); rotate_left; focus (first | (simp; done) | (simp; omega) | omega))))) (by first | omega | (simp; done) | (simp; omega)) hb5); have hz5a : w.heap.size < w5.heap.size := (by have := hb5.size; first | omega | (simp at this; omega)); have hz5b : w.heap.size + 1 < w5.heap.size := (by have := hb5.size; first | omega | (simp at this; omega)))
            obtain ⟨c0, c1, c2, c3, c4, c5, -⟩ := blk6p (blk_below HPO.out hb5 (by omega))
            have ho1 := Lib.hid (hown.out.keep hb5)
            have hs1 : Hid (w4.heap.size ≤ w5.heap.size) := Lib.hid (by have := hb5.size; omega)
            have hBe : Hid (Below w4.heap.size w4 w5) := Lib.hid (hbel.out.trans (hb5.mono (by omega)))
            clear hc5 hf5 hb5 hB5 hBo a0 a1 a2 q0 q1 q2 q3 q4 q5
            have hLL := HL.out
            have hfv := HFV.out
            simp only [if_true, if_false, Bool.false_eq_true] at hfv
            subst hfv
            go_wp2_with (at_builtin; refine wpList_append_own _ rfl _ _ 22 rfl (w4.heap.size) 2 i0 (.int .i64 0) 1 8 Try.underlying22 HI.out.2.1 HI.out.2.2.1 HI.out.2.2.2.1 HI.out.2.2.2.2 rfl (by decide) _ _ _ rfl (Own.alloc ho1.out _) ⟨w5.heap.size, 0, none⟩ 1 1 [.int .i64 (FV)] rfl rfl (cell_one_new _ _ _) (one_ok _) (own_max ho1.out (by omega)) (own_bytes ho1.out (by omega)) (own_base hs1.out) ?_; intro va wa howna hgrowa _; have hoa := Lib.hid (Own.snoc howna); have hga := Lib.hid hgrowa; clear howna hgrowa)
            go_roundw
            case rel => exact ⟨j + 1, by omega, by go_num, Lib.hid (by have := hoa.out; rw [show k * V + (j + 1) = k * V + j + 1 from rfl, HT0.out]; exact this), Lib.hid (Own.below_grown ho1.out hBe.out hs1.out hga.out)⟩
            case measure => simp [intOf]; omega
        · have hjn : j = V := by omega
          have hji : ¬ ((j : Int) < (V : Int)) := by omega
          go_wp2_with fail
          go_roundw
          case rel => exact ⟨k + 1, by omega, by go_num, Lib.hid (by have := hown.out; rwa [show k * V + j = (k + 1) * V from by rw [hjn, Nat.add_mul, Nat.one_mul]] at this), hbel⟩
          case measure => simp [intOf]; omega
    · have hkn : k = H := by omega
      have hki : ¬ ((k : Int) < (H : Int)) := by omega
      have hof := hown0.out
      rw [List.take_of_length_le (by rw [hGl.out, hkn, HN.out]; exact Nat.le_refl _)] at hof
      have HO := Lib.hid hof
      have HBF : Hid (Below w.heap.size w wr) := Lib.hid (HW.out.trans (hbel0.out.mono (by omega)))
      have hzr : w.heap.size + 1 + 1 < w4.heap.size := hs4
      have HZr := blk_below HZ4.out hbel0.out hs4
      obtain ⟨A2, c2', rfl, hr2⟩ := hof.shape
      rw [hGl.out] at HO ⊢
      obtain ⟨z0, z1, z2, zf⟩ := blk3 HZr
      obtain ⟨s0, s1, s2⟩ := res3 HZr (.int .i64 H) (.int .i64 V) (.slice A2 N c2')
      clear hof hr2 HZr hown0 hbel0
      go_wp2_with fail
      (try simp only [Exit.inBlock, Exit.then]); refine bodyPost_ret (by simp [results, Try.results67, go_sem, s0, s1, s2]; try rfl) rfl ?_
      exact ⟨_, rfl, ((((HO.out.setLt hs4 _).setLt hs4 _).setLt hs4 _)).more (by omega), HBF.out.trans (by (repeat (first | (with_reducible assumption) | (with_reducible exact Below.refl _ _) | (with_reducible refine below_drewN' ?_ _) | (with_reducible refine Below.drew ?_) | ((with_reducible refine Below.alloc ?_ ?_ _); rotate_left; focus (first | (simp; done) | (simp; omega) | omega)) | ((with_reducible refine Below.setCell ?_ ?_ _); rotate_left; focus (first | (simp; done) | (simp; omega) | omega)))))⟩
theorem sPrintGrid_any (R C : Int) (A : Option Addr) (n cp : Nat) (xs : List Int) (p t q d l : Int) (w : World) (B : Nat) (hr : RI w B A n xs) (hB : B ≤ w.heap.size) (hn : n ≤ 1000000000000000) :
    Calls Try.prog 67 #[.agg #[.int .i64 R, .int .i64 C, .slice A n cp], .agg #[.int .i64 p, .int .i64 t, .int .i64 q, .int .i64 0, .int .i64 d, .int .i64 l]] w fun e w' => ∃ v, e = .returned (.tuple #[.agg #[.int .i64 (gK (prK R C xs p t q d l) ((R + 2 * q) * t)), .int .i64 (gK (prK R C xs p t q d l) ((C + 2 * q) * p)), v], .int .i64 (prK R C xs p t q d l)]) ∧ Own w' w.heap.size v (prL R C xs p t q d l) ∧ Below w.heap.size w w' := by
  unfold prL prK
  cases h1 : gridB R C xs
  · simpa [gK] using sPrintGrid_a R C A n cp xs p t q d l w B hr hB hn h1
  cases h2 : prnB p t q 0 d l
  · simpa [gK] using sPrintGrid_b R C A n cp xs p t q d l w B hr hB hn h1 h2
  cases h3 : posB xs
  · simpa [gK] using sPrintGrid_c R C A n cp xs p t q d l w B hr hB hn h1 h2 h3
  by_cases h4 : psK R C p t q 0 d l = 0
  · simpa [gK, h4] using sPrintGrid_e R C A n cp xs p t q d l w B hr hB hn h1 h2 h3 h4
  · simpa [gK, h4] using sPrintGrid_d R C A n cp xs p t q d l w B hr hB hn h1 h2 h3 h4

end Go.Proofs.Ytkipaefhnmfebaa
