/-
  Contracts of chapter 21: the pixels of a print without bleed; printing a grid, both sides. Printed by gen/c21p.py.
-/
import Derived.Test.YtflpllmbpfdnjaaC01
import Derived.Test.YtflpllmbpfdnjaaRas
import Derived.Test.YtflpllmbpfdnjaaC14
import Derived.Test.YtflpllmbpfdnjaaC26H
import Derived.Maps.AppendAt
import Derived.Deep.AppendLies
import Derived.Deep.RegionLaw
namespace Go.Proofs.Ytflpllmbpfdnjaa
set_option linter.unusedSimpArgs false
open Go.RowKit

theorem inR_of {n lo hi : Int} (h : lo ≤ n ∧ n ≤ hi) : inR n lo hi = true := by unfold inR; simp; exact h
/-- Is a print valid? -/
def prnB (p t q b d l : Int) : Bool := inR p 1 12 && inR t 1 12 && inR q 0 16 && inR b (1 - p) (p - 1) && decide (0 ≤ d) && decide (d < l) && decide (l ≤ 255)
theorem prnB_true {p t q b d l : Int} (h : prnB p t q b d l = true) : (1 ≤ p ∧ p ≤ 12) ∧ (1 ≤ t ∧ t ≤ 12) ∧ (0 ≤ q ∧ q ≤ 16) ∧ (1 - p ≤ b ∧ b ≤ p - 1) ∧ 0 ≤ d ∧ d < l ∧ l ≤ 255 := by
  simp only [prnB, Bool.and_eq_true, decide_eq_true_eq] at h
  exact ⟨inR_true h.1.1.1.1.1.1, inR_true h.1.1.1.1.1.2, inR_true h.1.1.1.1.2, inR_true h.1.1.1.2, h.1.1.2, h.1.2, h.2⟩
theorem prn_no {p t q b d l : Int} (h : prnB p t q b d l = true → False) : prnB p t q b d l = false := by
  cases e : prnB p t q b d l
  · rfl
  · exact (h e).elim
theorem prnB_yes {p t q b d l : Int} (h1 : 1 ≤ p ∧ p ≤ 12) (h2 : 1 ≤ t ∧ t ≤ 12) (h3 : 0 ≤ q ∧ q ≤ 16) (h4 : 1 - p ≤ b ∧ b ≤ p - 1) (h5 : 0 ≤ d) (h6 : d < l) (h7 : l ≤ 255) : prnB p t q b d l = true := by
  simp only [prnB, Bool.and_eq_true, decide_eq_true_eq]
  exact ⟨⟨⟨⟨⟨⟨inR_of h1, inR_of h2⟩, inR_of h3⟩, inR_of h4⟩, h5⟩, h6⟩, h7⟩

set_option maxHeartbeats 4000000 in
theorem IsPrint_any (p t q b d l : Int) (w : World) : Calls Try.prog 64 #[.agg #[.int .i64 p, .int .i64 t, .int .i64 q, .int .i64 b, .int .i64 d, .int .i64 l]] w fun e w' => e = .returned (.bool (prnB p t q b d l)) ∧ Below w.heap.size w w' := by
  cases h1 : inR p 1 12
  · go_enter Try.func64, Try.ntmps64
    go_wp2_with (go_at_call 48; refine (inRange_any _ _ _ _).mono ?_; rintro e w' ⟨rfl, rfl⟩)
    all_goals (first | go_ret | go_returns)
    all_goals (exact ⟨ret_bool (by have hx := prn_no (p := p) (t := t) (q := q) (b := b) (d := d) (l := l) (fun hh => by have hp := prnB_true hh; first | (have := inR_of hp.1; simp_all; done) | (have := inR_of hp.2.1; simp_all; done) | (have := inR_of hp.2.2.1; simp_all; done) | (have := inR_of hp.2.2.2.1; simp_all; done) | (have h0 : inR d 0 255 = true := inR_of (by omega); simp_all; done) | (have h0 : inR l 0 255 = true := inR_of (by omega); simp_all; done) | omega); rw [hx]; try (simp; omega)), by first | rfl | go_grown⟩)
  have b1 := inR_true h1
  cases h2 : inR t 1 12
  · go_enter Try.func64, Try.ntmps64
    go_wp2_with (go_at_call 48; refine (inRange_any _ _ _ _).mono ?_; rintro e w' ⟨rfl, rfl⟩)
    all_goals (first | go_ret | go_returns)
    all_goals (exact ⟨ret_bool (by have hx := prn_no (p := p) (t := t) (q := q) (b := b) (d := d) (l := l) (fun hh => by have hp := prnB_true hh; first | (have := inR_of hp.1; simp_all; done) | (have := inR_of hp.2.1; simp_all; done) | (have := inR_of hp.2.2.1; simp_all; done) | (have := inR_of hp.2.2.2.1; simp_all; done) | (have h0 : inR d 0 255 = true := inR_of (by omega); simp_all; done) | (have h0 : inR l 0 255 = true := inR_of (by omega); simp_all; done) | omega); rw [hx]; try (simp; omega)), by first | rfl | go_grown⟩)
  have b2 := inR_true h2
  cases h3 : inR q 0 16
  · go_enter Try.func64, Try.ntmps64
    go_wp2_with (go_at_call 48; refine (inRange_any _ _ _ _).mono ?_; rintro e w' ⟨rfl, rfl⟩)
    all_goals (first | go_ret | go_returns)
    all_goals (exact ⟨ret_bool (by have hx := prn_no (p := p) (t := t) (q := q) (b := b) (d := d) (l := l) (fun hh => by have hp := prnB_true hh; first | (have := inR_of hp.1; simp_all; done) | (have := inR_of hp.2.1; simp_all; done) | (have := inR_of hp.2.2.1; simp_all; done) | (have := inR_of hp.2.2.2.1; simp_all; done) | (have h0 : inR d 0 255 = true := inR_of (by omega); simp_all; done) | (have h0 : inR l 0 255 = true := inR_of (by omega); simp_all; done) | omega); rw [hx]; try (simp; omega)), by first | rfl | go_grown⟩)
  have b3 := inR_true h3
  cases h4 : inR b (1 - p) (p - 1)
  · go_enter Try.func64, Try.ntmps64
    go_wp2_with (go_at_call 48; refine (inRange_any _ _ _ _).mono ?_; rintro e w' ⟨rfl, rfl⟩)
    all_goals (first | go_ret | go_returns)
    all_goals (exact ⟨ret_bool (by have hx := prn_no (p := p) (t := t) (q := q) (b := b) (d := d) (l := l) (fun hh => by have hp := prnB_true hh; first | (have := inR_of hp.1; simp_all; done) | (have := inR_of hp.2.1; simp_all; done) | (have := inR_of hp.2.2.1; simp_all; done) | (have := inR_of hp.2.2.2.1; simp_all; done) | (have h0 : inR d 0 255 = true := inR_of (by omega); simp_all; done) | (have h0 : inR l 0 255 = true := inR_of (by omega); simp_all; done) | omega); rw [hx]; try (simp; omega)), by first | rfl | go_grown⟩)
  have b4 := inR_true h4
  rcases (show ¬ (0 ≤ d) ∨ (0 ≤ d) by omega) with h5 | h5
  · go_enter Try.func64, Try.ntmps64
    go_wp2_with (go_at_call 48; refine (inRange_any _ _ _ _).mono ?_; rintro e w' ⟨rfl, rfl⟩)
    all_goals (first | go_ret | go_returns)
    all_goals (exact ⟨ret_bool (by have hx := prn_no (p := p) (t := t) (q := q) (b := b) (d := d) (l := l) (fun hh => by have hp := prnB_true hh; first | (have := inR_of hp.1; simp_all; done) | (have := inR_of hp.2.1; simp_all; done) | (have := inR_of hp.2.2.1; simp_all; done) | (have := inR_of hp.2.2.2.1; simp_all; done) | (have h0 : inR d 0 255 = true := inR_of (by omega); simp_all; done) | (have h0 : inR l 0 255 = true := inR_of (by omega); simp_all; done) | omega); rw [hx]; try (simp; omega)), by first | rfl | go_grown⟩)
  rcases (show ¬ (d < l) ∨ (d < l) by omega) with h6 | h6
  · go_enter Try.func64, Try.ntmps64
    go_wp2_with (go_at_call 48; refine (inRange_any _ _ _ _).mono ?_; rintro e w' ⟨rfl, rfl⟩)
    all_goals (first | go_ret | go_returns)
    all_goals (exact ⟨ret_bool (by have hx := prn_no (p := p) (t := t) (q := q) (b := b) (d := d) (l := l) (fun hh => by have hp := prnB_true hh; first | (have := inR_of hp.1; simp_all; done) | (have := inR_of hp.2.1; simp_all; done) | (have := inR_of hp.2.2.1; simp_all; done) | (have := inR_of hp.2.2.2.1; simp_all; done) | (have h0 : inR d 0 255 = true := inR_of (by omega); simp_all; done) | (have h0 : inR l 0 255 = true := inR_of (by omega); simp_all; done) | omega); rw [hx]; try (simp; omega)), by first | rfl | go_grown⟩)
  rcases (show ¬ (l ≤ 255) ∨ (l ≤ 255) by omega) with h7 | h7
  · go_enter Try.func64, Try.ntmps64
    go_wp2_with (go_at_call 48; refine (inRange_any _ _ _ _).mono ?_; rintro e w' ⟨rfl, rfl⟩)
    all_goals (first | go_ret | go_returns)
    all_goals (exact ⟨ret_bool (by have hx := prn_no (p := p) (t := t) (q := q) (b := b) (d := d) (l := l) (fun hh => by have hp := prnB_true hh; first | (have := inR_of hp.1; simp_all; done) | (have := inR_of hp.2.1; simp_all; done) | (have := inR_of hp.2.2.1; simp_all; done) | (have := inR_of hp.2.2.2.1; simp_all; done) | (have h0 : inR d 0 255 = true := inR_of (by omega); simp_all; done) | (have h0 : inR l 0 255 = true := inR_of (by omega); simp_all; done) | omega); rw [hx]; try (simp; omega)), by first | rfl | go_grown⟩)
  go_enter Try.func64, Try.ntmps64
  go_wp2_with (go_at_call 48; refine (inRange_any _ _ _ _).mono ?_; rintro e w' ⟨rfl, rfl⟩)
  all_goals (first | go_ret | go_returns)
  all_goals (exact ⟨ret_bool (by have hx := prnB_yes (p := p) (t := t) (q := q) (b := b) (d := d) (l := l) b1 b2 b3 b4 (by omega) (by omega) (by omega); rw [hx]; try (simp; omega)), by first | rfl | go_grown⟩)

set_option maxHeartbeats 4000000 in
theorem sIsPrint_any (p t q b d l : Int) (w : World) : Calls Try.prog 71 #[.agg #[.int .i64 p, .int .i64 t, .int .i64 q, .int .i64 b, .int .i64 d, .int .i64 l]] w fun e w' => e = .returned (.bool (prnB p t q b d l)) ∧ Below w.heap.size w w' := by
  cases h1 : inR p 1 12
  · go_enter Try.func71, Try.ntmps71
    go_wp2_with first | (go_at_call 44; refine (l01In_any _ _ _ _).mono ?_; rintro e w' ⟨rfl, rfl⟩) | (go_at_call 95; refine (l20Grey_any _ _).mono ?_; rintro e w' ⟨rfl, rfl⟩)
    all_goals (first | go_ret | go_returns)
    all_goals (exact ⟨ret_bool (by have hx := prn_no (p := p) (t := t) (q := q) (b := b) (d := d) (l := l) (fun hh => by have hp := prnB_true hh; first | (have := inR_of hp.1; simp_all; done) | (have := inR_of hp.2.1; simp_all; done) | (have := inR_of hp.2.2.1; simp_all; done) | (have := inR_of hp.2.2.2.1; simp_all; done) | (have h0 : inR d 0 255 = true := inR_of (by omega); simp_all; done) | (have h0 : inR l 0 255 = true := inR_of (by omega); simp_all; done) | omega); rw [hx]; try (simp; omega)), by first | rfl | go_grown⟩)
  have b1 := inR_true h1
  cases h2 : inR t 1 12
  · go_enter Try.func71, Try.ntmps71
    go_wp2_with first | (go_at_call 44; refine (l01In_any _ _ _ _).mono ?_; rintro e w' ⟨rfl, rfl⟩) | (go_at_call 95; refine (l20Grey_any _ _).mono ?_; rintro e w' ⟨rfl, rfl⟩)
    all_goals (first | go_ret | go_returns)
    all_goals (exact ⟨ret_bool (by have hx := prn_no (p := p) (t := t) (q := q) (b := b) (d := d) (l := l) (fun hh => by have hp := prnB_true hh; first | (have := inR_of hp.1; simp_all; done) | (have := inR_of hp.2.1; simp_all; done) | (have := inR_of hp.2.2.1; simp_all; done) | (have := inR_of hp.2.2.2.1; simp_all; done) | (have h0 : inR d 0 255 = true := inR_of (by omega); simp_all; done) | (have h0 : inR l 0 255 = true := inR_of (by omega); simp_all; done) | omega); rw [hx]; try (simp; omega)), by first | rfl | go_grown⟩)
  have b2 := inR_true h2
  cases h3 : inR q 0 16
  · go_enter Try.func71, Try.ntmps71
    go_wp2_with first | (go_at_call 44; refine (l01In_any _ _ _ _).mono ?_; rintro e w' ⟨rfl, rfl⟩) | (go_at_call 95; refine (l20Grey_any _ _).mono ?_; rintro e w' ⟨rfl, rfl⟩)
    all_goals (first | go_ret | go_returns)
    all_goals (exact ⟨ret_bool (by have hx := prn_no (p := p) (t := t) (q := q) (b := b) (d := d) (l := l) (fun hh => by have hp := prnB_true hh; first | (have := inR_of hp.1; simp_all; done) | (have := inR_of hp.2.1; simp_all; done) | (have := inR_of hp.2.2.1; simp_all; done) | (have := inR_of hp.2.2.2.1; simp_all; done) | (have h0 : inR d 0 255 = true := inR_of (by omega); simp_all; done) | (have h0 : inR l 0 255 = true := inR_of (by omega); simp_all; done) | omega); rw [hx]; try (simp; omega)), by first | rfl | go_grown⟩)
  have b3 := inR_true h3
  cases h4 : inR b (1 - p) (p - 1)
  · go_enter Try.func71, Try.ntmps71
    go_wp2_with first | (go_at_call 44; refine (l01In_any _ _ _ _).mono ?_; rintro e w' ⟨rfl, rfl⟩) | (go_at_call 95; refine (l20Grey_any _ _).mono ?_; rintro e w' ⟨rfl, rfl⟩)
    all_goals (first | go_ret | go_returns)
    all_goals (exact ⟨ret_bool (by have hx := prn_no (p := p) (t := t) (q := q) (b := b) (d := d) (l := l) (fun hh => by have hp := prnB_true hh; first | (have := inR_of hp.1; simp_all; done) | (have := inR_of hp.2.1; simp_all; done) | (have := inR_of hp.2.2.1; simp_all; done) | (have := inR_of hp.2.2.2.1; simp_all; done) | (have h0 : inR d 0 255 = true := inR_of (by omega); simp_all; done) | (have h0 : inR l 0 255 = true := inR_of (by omega); simp_all; done) | omega); rw [hx]; try (simp; omega)), by first | rfl | go_grown⟩)
  have b4 := inR_true h4
  cases h5 : inR d 0 255
  · go_enter Try.func71, Try.ntmps71
    go_wp2_with first | (go_at_call 44; refine (l01In_any _ _ _ _).mono ?_; rintro e w' ⟨rfl, rfl⟩) | (go_at_call 95; refine (l20Grey_any _ _).mono ?_; rintro e w' ⟨rfl, rfl⟩)
    all_goals (first | go_ret | go_returns)
    all_goals (exact ⟨ret_bool (by have hx := prn_no (p := p) (t := t) (q := q) (b := b) (d := d) (l := l) (fun hh => by have hp := prnB_true hh; first | (have := inR_of hp.1; simp_all; done) | (have := inR_of hp.2.1; simp_all; done) | (have := inR_of hp.2.2.1; simp_all; done) | (have := inR_of hp.2.2.2.1; simp_all; done) | (have h0 : inR d 0 255 = true := inR_of (by omega); simp_all; done) | (have h0 : inR l 0 255 = true := inR_of (by omega); simp_all; done) | omega); rw [hx]; try (simp; omega)), by first | rfl | go_grown⟩)
  have b5 := inR_true h5
  cases h6 : inR l 0 255
  · go_enter Try.func71, Try.ntmps71
    go_wp2_with first | (go_at_call 44; refine (l01In_any _ _ _ _).mono ?_; rintro e w' ⟨rfl, rfl⟩) | (go_at_call 95; refine (l20Grey_any _ _).mono ?_; rintro e w' ⟨rfl, rfl⟩)
    all_goals (first | go_ret | go_returns)
    all_goals (exact ⟨ret_bool (by have hx := prn_no (p := p) (t := t) (q := q) (b := b) (d := d) (l := l) (fun hh => by have hp := prnB_true hh; first | (have := inR_of hp.1; simp_all; done) | (have := inR_of hp.2.1; simp_all; done) | (have := inR_of hp.2.2.1; simp_all; done) | (have := inR_of hp.2.2.2.1; simp_all; done) | (have h0 : inR d 0 255 = true := inR_of (by omega); simp_all; done) | (have h0 : inR l 0 255 = true := inR_of (by omega); simp_all; done) | omega); rw [hx]; try (simp; omega)), by first | rfl | go_grown⟩)
  have b6 := inR_true h6
  rcases (show ¬ (d < l) ∨ (d < l) by omega) with h7 | h7
  · go_enter Try.func71, Try.ntmps71
    go_wp2_with first | (go_at_call 44; refine (l01In_any _ _ _ _).mono ?_; rintro e w' ⟨rfl, rfl⟩) | (go_at_call 95; refine (l20Grey_any _ _).mono ?_; rintro e w' ⟨rfl, rfl⟩)
    all_goals (first | go_ret | go_returns)
    all_goals (exact ⟨ret_bool (by have hx := prn_no (p := p) (t := t) (q := q) (b := b) (d := d) (l := l) (fun hh => by have hp := prnB_true hh; first | (have := inR_of hp.1; simp_all; done) | (have := inR_of hp.2.1; simp_all; done) | (have := inR_of hp.2.2.1; simp_all; done) | (have := inR_of hp.2.2.2.1; simp_all; done) | (have h0 : inR d 0 255 = true := inR_of (by omega); simp_all; done) | (have h0 : inR l 0 255 = true := inR_of (by omega); simp_all; done) | omega); rw [hx]; try (simp; omega)), by first | rfl | go_grown⟩)
  go_enter Try.func71, Try.ntmps71
  go_wp2_with first | (go_at_call 44; refine (l01In_any _ _ _ _).mono ?_; rintro e w' ⟨rfl, rfl⟩) | (go_at_call 95; refine (l20Grey_any _ _).mono ?_; rintro e w' ⟨rfl, rfl⟩)
  all_goals (first | go_ret | go_returns)
  all_goals (exact ⟨ret_bool (by have hx := prnB_yes (p := p) (t := t) (q := q) (b := b) (d := d) (l := l) b1 b2 b3 b4 (by omega) (by omega) (by omega); rw [hx]; try (simp; omega)), by first | rfl | go_grown⟩)


/-- The code of the size of a printed grid. -/
def psK (r c p t q b d l : Int) : Int := if prnB p t q b d l then if inR r 1 400 && inR c 1 400 then if rszB ((r + 2 * q) * t) ((c + 2 * q) * p) then 0 else 3 else 2 else 1
def gK (k x : Int) : Int := if k = 0 then x else 0
theorem prt_bd {r q t : Int} (hr : 1 ≤ r ∧ r ≤ 400) (hq : 0 ≤ q ∧ q ≤ 16) (ht : 1 ≤ t ∧ t ≤ 12) : 0 ≤ (r + 2 * q) * t ∧ (r + 2 * q) * t ≤ 5184 := by
  have := mul_bd (a := r + 2 * q) (b := t) (A := 432) (B := 12) (by omega) (by omega) (by omega) (by omega)
  omega
theorem fits_any (r c : Int) (w : World) : Calls Try.prog 93 #[.agg #[.int .i64 r, .int .i64 c]] w fun e w' => e = .returned (.bool (rszB r c)) ∧ Below w.heap.size w w' := by
  go_enter Try.func93, Try.ntmps93
  go_wp2_with (go_at_call 113; refine (isRasterSize_any _ _ _).mono ?_; rintro e w' ⟨rfl, rfl⟩)
  first | go_ret | go_returns
  exact ⟨rfl, by go_grown⟩
set_option maxHeartbeats 1000000 in
theorem sizeOf_any (r c p t q b d l : Int) (w : World) (hr : 1 ≤ r ∧ r ≤ 400) (hc : 1 ≤ c ∧ c ≤ 400) (hp : 1 ≤ p ∧ p ≤ 12) (ht : 1 ≤ t ∧ t ≤ 12) (hq : 0 ≤ q ∧ q ≤ 16) :
    Calls Try.prog 67 #[.agg #[.int .i64 p, .int .i64 t, .int .i64 q, .int .i64 b, .int .i64 d, .int .i64 l], .int .i64 r, .int .i64 c] w fun e w' => e = .returned (.agg #[.int .i64 ((r + 2 * q) * t), .int .i64 ((c + 2 * q) * p)]) ∧ Below w.heap.size w w' := by
  have h1 := prt_bd hr hq ht
  have h2 := prt_bd hc hq hp
  have w1 : IntKind.i64.wrap ((r + 2 * q) * t) = (r + 2 * q) * t := by rw [IntKind.wrap_i64]; omega
  have w2 : IntKind.i64.wrap ((c + 2 * q) * p) = (c + 2 * q) * p := by rw [IntKind.wrap_i64]; omega
  go_enter Try.func67, Try.ntmps67
  go_wp2_with fail
  first | go_ret | go_returns
  exact ⟨rfl, by go_grown⟩
set_option maxHeartbeats 4000000 in
theorem PrintSize_any (r c p t q b d l : Int) (w : World) :
    Calls Try.prog 66 #[.int .i64 r, .int .i64 c, .agg #[.int .i64 p, .int .i64 t, .int .i64 q, .int .i64 b, .int .i64 d, .int .i64 l]] w fun e w' => e = .returned (.tuple #[.int .i64 (gK (psK r c p t q b d l) ((r + 2 * q) * t)), .int .i64 (gK (psK r c p t q b d l) ((c + 2 * q) * p)), .int .i64 (psK r c p t q b d l)]) ∧ Below w.heap.size w w' := by
  have HP := Lib.hid (fun w => IsPrint_any p t q b d l w)
  cases h0 : prnB p t q b d l
  · rw [h0] at HP
    go_enter Try.func66, Try.ntmps66
    go_wp2_with first | (go_at_call 67; go_call (sizeOf_any r c p t q b d l _ b1 b2 x1 x2 x3) as e2 w2 ⟨rfl, hb2⟩; obtain ⟨hc2, hf2⟩ := bcell hb2; have hB2 : Below w.heap.size w w2 := (below_then (by first | (go_grown; done) | (repeat (first | (with_reducible assumption) | (with_reducible exact Below.refl _ _) | (with_reducible refine below_drewN' ?_ _) | (with_reducible refine Below.drew ?_) | ((with_reducible refine Below.alloc ?_ ?_ _); rotate_left; focus (first | (simp; done) | (simp; omega) | omega)) | ((with_reducible refine Below.setCell ?_ ?_ _); rotate_left; focus (first | (simp; done) | (simp; omega) | omega))))) (by first | omega | (simp; done) | (simp; omega)) hb2); have hz2a : w.heap.size < w2.heap.size := (by have := hb2.size; first | omega | (simp at this; omega))) | (go_at_call 93; go_call (fits_any ((r + 2 * q) * t) ((c + 2 * q) * p) _) as e3 w3 ⟨rfl, hb3⟩; obtain ⟨hc3, hf3⟩ := bcell hb3; have hB3 : Below w.heap.size w w3 := (below_then (by first | (go_grown; done) | (repeat (first | (with_reducible assumption) | (with_reducible exact Below.refl _ _) | (with_reducible refine below_drewN' ?_ _) | (with_reducible refine Below.drew ?_) | ((with_reducible refine Below.alloc ?_ ?_ _); rotate_left; focus (first | (simp; done) | (simp; omega) | omega)) | ((with_reducible refine Below.setCell ?_ ?_ _); rotate_left; focus (first | (simp; done) | (simp; omega) | omega))))) (by first | omega | (simp; done) | (simp; omega)) hb3); have hz3a : w.heap.size < w3.heap.size := (by have := hb3.size; first | omega | (simp at this; omega)); have hz3b : w2.heap.size < w3.heap.size := (by have := hb3.size; first | omega | (simp at this; omega))) | (go_at_call 64; go_call (HP.out _) as e1 w1 ⟨rfl, hb1⟩; obtain ⟨hc1, hf1⟩ := bcell hb1; have hB1 : Below w.heap.size w w1 := (below_then (by first | (go_grown; done) | (repeat (first | (with_reducible assumption) | (with_reducible exact Below.refl _ _) | (with_reducible refine below_drewN' ?_ _) | (with_reducible refine Below.drew ?_) | ((with_reducible refine Below.alloc ?_ ?_ _); rotate_left; focus (first | (simp; done) | (simp; omega) | omega)) | ((with_reducible refine Below.setCell ?_ ?_ _); rotate_left; focus (first | (simp; done) | (simp; omega) | omega))))) (by first | omega | (simp; done) | (simp; omega)) hb1); have hz1a : w.heap.size < w1.heap.size := (by have := hb1.size; first | omega | (simp at this; omega))) | (go_at_call 48; refine (inRange_any _ _ _ _).mono ?_; rintro e w' ⟨rfl, rfl⟩)
    first | go_ret | go_returns | (go_quiet (fail); go_wp2_with (first | (go_at_call 67; go_call (sizeOf_any r c p t q b d l _ b1 b2 x1 x2 x3) as e2 w2 ⟨rfl, hb2⟩; obtain ⟨hc2, hf2⟩ := bcell hb2; have hB2 : Below w.heap.size w w2 := (below_then (by first | (go_grown; done) | (repeat (first | (with_reducible assumption) | (with_reducible exact Below.refl _ _) | (with_reducible refine below_drewN' ?_ _) | (with_reducible refine Below.drew ?_) | ((with_reducible refine Below.alloc ?_ ?_ _); rotate_left; focus (first | (simp; done) | (simp; omega) | omega)) | ((with_reducible refine Below.setCell ?_ ?_ _); rotate_left; focus (first | (simp; done) | (simp; omega) | omega))))) (by first | omega | (simp; done) | (simp; omega)) hb2); have hz2a : w.heap.size < w2.heap.size := (by have := hb2.size; first | omega | (simp at this; omega))) | (go_at_call 93; go_call (fits_any ((r + 2 * q) * t) ((c + 2 * q) * p) _) as e3 w3 ⟨rfl, hb3⟩; obtain ⟨hc3, hf3⟩ := bcell hb3; have hB3 : Below w.heap.size w w3 := (below_then (by first | (go_grown; done) | (repeat (first | (with_reducible assumption) | (with_reducible exact Below.refl _ _) | (with_reducible refine below_drewN' ?_ _) | (with_reducible refine Below.drew ?_) | ((with_reducible refine Below.alloc ?_ ?_ _); rotate_left; focus (first | (simp; done) | (simp; omega) | omega)) | ((with_reducible refine Below.setCell ?_ ?_ _); rotate_left; focus (first | (simp; done) | (simp; omega) | omega))))) (by first | omega | (simp; done) | (simp; omega)) hb3); have hz3a : w.heap.size < w3.heap.size := (by have := hb3.size; first | omega | (simp at this; omega)); have hz3b : w2.heap.size < w3.heap.size := (by have := hb3.size; first | omega | (simp at this; omega))) | (go_at_call 64; go_call (HP.out _) as e1 w1 ⟨rfl, hb1⟩; obtain ⟨hc1, hf1⟩ := bcell hb1; have hB1 : Below w.heap.size w w1 := (below_then (by first | (go_grown; done) | (repeat (first | (with_reducible assumption) | (with_reducible exact Below.refl _ _) | (with_reducible refine below_drewN' ?_ _) | (with_reducible refine Below.drew ?_) | ((with_reducible refine Below.alloc ?_ ?_ _); rotate_left; focus (first | (simp; done) | (simp; omega) | omega)) | ((with_reducible refine Below.setCell ?_ ?_ _); rotate_left; focus (first | (simp; done) | (simp; omega) | omega))))) (by first | omega | (simp; done) | (simp; omega)) hb1); have hz1a : w.heap.size < w1.heap.size := (by have := hb1.size; first | omega | (simp at this; omega))) | (go_at_call 48; refine (inRange_any _ _ _ _).mono ?_; rintro e w' ⟨rfl, rfl⟩)); first | go_ret | go_returns)
    exact ⟨by simp [psK, gK, *], by (repeat (first | (with_reducible assumption) | (with_reducible exact Below.refl _ _) | (with_reducible refine below_drewN' ?_ _) | (with_reducible refine Below.drew ?_) | ((with_reducible refine Below.alloc ?_ ?_ _); rotate_left; focus (first | (simp; done) | (simp; omega) | omega)) | ((with_reducible refine Below.setCell ?_ ?_ _); rotate_left; focus (first | (simp; done) | (simp; omega) | omega))))⟩
  have h0' := h0
  rw [h0] at HP
  obtain ⟨x1, x2, x3, x4, x5, x6, x7⟩ := prnB_true h0'
  clear h0'
  cases h1 : inR r 1 400
  · go_enter Try.func66, Try.ntmps66
    go_wp2_with first | (go_at_call 67; go_call (sizeOf_any r c p t q b d l _ b1 b2 x1 x2 x3) as e2 w2 ⟨rfl, hb2⟩; obtain ⟨hc2, hf2⟩ := bcell hb2; have hB2 : Below w.heap.size w w2 := (below_then (by first | (go_grown; done) | (repeat (first | (with_reducible assumption) | (with_reducible exact Below.refl _ _) | (with_reducible refine below_drewN' ?_ _) | (with_reducible refine Below.drew ?_) | ((with_reducible refine Below.alloc ?_ ?_ _); rotate_left; focus (first | (simp; done) | (simp; omega) | omega)) | ((with_reducible refine Below.setCell ?_ ?_ _); rotate_left; focus (first | (simp; done) | (simp; omega) | omega))))) (by first | omega | (simp; done) | (simp; omega)) hb2); have hz2a : w.heap.size < w2.heap.size := (by have := hb2.size; first | omega | (simp at this; omega))) | (go_at_call 93; go_call (fits_any ((r + 2 * q) * t) ((c + 2 * q) * p) _) as e3 w3 ⟨rfl, hb3⟩; obtain ⟨hc3, hf3⟩ := bcell hb3; have hB3 : Below w.heap.size w w3 := (below_then (by first | (go_grown; done) | (repeat (first | (with_reducible assumption) | (with_reducible exact Below.refl _ _) | (with_reducible refine below_drewN' ?_ _) | (with_reducible refine Below.drew ?_) | ((with_reducible refine Below.alloc ?_ ?_ _); rotate_left; focus (first | (simp; done) | (simp; omega) | omega)) | ((with_reducible refine Below.setCell ?_ ?_ _); rotate_left; focus (first | (simp; done) | (simp; omega) | omega))))) (by first | omega | (simp; done) | (simp; omega)) hb3); have hz3a : w.heap.size < w3.heap.size := (by have := hb3.size; first | omega | (simp at this; omega)); have hz3b : w2.heap.size < w3.heap.size := (by have := hb3.size; first | omega | (simp at this; omega))) | (go_at_call 64; go_call (HP.out _) as e1 w1 ⟨rfl, hb1⟩; obtain ⟨hc1, hf1⟩ := bcell hb1; have hB1 : Below w.heap.size w w1 := (below_then (by first | (go_grown; done) | (repeat (first | (with_reducible assumption) | (with_reducible exact Below.refl _ _) | (with_reducible refine below_drewN' ?_ _) | (with_reducible refine Below.drew ?_) | ((with_reducible refine Below.alloc ?_ ?_ _); rotate_left; focus (first | (simp; done) | (simp; omega) | omega)) | ((with_reducible refine Below.setCell ?_ ?_ _); rotate_left; focus (first | (simp; done) | (simp; omega) | omega))))) (by first | omega | (simp; done) | (simp; omega)) hb1); have hz1a : w.heap.size < w1.heap.size := (by have := hb1.size; first | omega | (simp at this; omega))) | (go_at_call 48; refine (inRange_any _ _ _ _).mono ?_; rintro e w' ⟨rfl, rfl⟩)
    first | go_ret | go_returns | (go_quiet (fail); go_wp2_with (first | (go_at_call 67; go_call (sizeOf_any r c p t q b d l _ b1 b2 x1 x2 x3) as e2 w2 ⟨rfl, hb2⟩; obtain ⟨hc2, hf2⟩ := bcell hb2; have hB2 : Below w.heap.size w w2 := (below_then (by first | (go_grown; done) | (repeat (first | (with_reducible assumption) | (with_reducible exact Below.refl _ _) | (with_reducible refine below_drewN' ?_ _) | (with_reducible refine Below.drew ?_) | ((with_reducible refine Below.alloc ?_ ?_ _); rotate_left; focus (first | (simp; done) | (simp; omega) | omega)) | ((with_reducible refine Below.setCell ?_ ?_ _); rotate_left; focus (first | (simp; done) | (simp; omega) | omega))))) (by first | omega | (simp; done) | (simp; omega)) hb2); have hz2a : w.heap.size < w2.heap.size := (by have := hb2.size; first | omega | (simp at this; omega))) | (go_at_call 93; go_call (fits_any ((r + 2 * q) * t) ((c + 2 * q) * p) _) as e3 w3 ⟨rfl, hb3⟩; obtain ⟨hc3, hf3⟩ := bcell hb3; have hB3 : Below w.heap.size w w3 := (below_then (by first | (go_grown; done) | (repeat (first | (with_reducible assumption) | (with_reducible exact Below.refl _ _) | (with_reducible refine below_drewN' ?_ _) | (with_reducible refine Below.drew ?_) | ((with_reducible refine Below.alloc ?_ ?_ _); rotate_left; focus (first | (simp; done) | (simp; omega) | omega)) | ((with_reducible refine Below.setCell ?_ ?_ _); rotate_left; focus (first | (simp; done) | (simp; omega) | omega))))) (by first | omega | (simp; done) | (simp; omega)) hb3); have hz3a : w.heap.size < w3.heap.size := (by have := hb3.size; first | omega | (simp at this; omega)); have hz3b : w2.heap.size < w3.heap.size := (by have := hb3.size; first | omega | (simp at this; omega))) | (go_at_call 64; go_call (HP.out _) as e1 w1 ⟨rfl, hb1⟩; obtain ⟨hc1, hf1⟩ := bcell hb1; have hB1 : Below w.heap.size w w1 := (below_then (by first | (go_grown; done) | (repeat (first | (with_reducible assumption) | (with_reducible exact Below.refl _ _) | (with_reducible refine below_drewN' ?_ _) | (with_reducible refine Below.drew ?_) | ((with_reducible refine Below.alloc ?_ ?_ _); rotate_left; focus (first | (simp; done) | (simp; omega) | omega)) | ((with_reducible refine Below.setCell ?_ ?_ _); rotate_left; focus (first | (simp; done) | (simp; omega) | omega))))) (by first | omega | (simp; done) | (simp; omega)) hb1); have hz1a : w.heap.size < w1.heap.size := (by have := hb1.size; first | omega | (simp at this; omega))) | (go_at_call 48; refine (inRange_any _ _ _ _).mono ?_; rintro e w' ⟨rfl, rfl⟩)); first | go_ret | go_returns)
    exact ⟨by simp [psK, gK, *], by (repeat (first | (with_reducible assumption) | (with_reducible exact Below.refl _ _) | (with_reducible refine below_drewN' ?_ _) | (with_reducible refine Below.drew ?_) | ((with_reducible refine Below.alloc ?_ ?_ _); rotate_left; focus (first | (simp; done) | (simp; omega) | omega)) | ((with_reducible refine Below.setCell ?_ ?_ _); rotate_left; focus (first | (simp; done) | (simp; omega) | omega))))⟩
  cases h2 : inR c 1 400
  · go_enter Try.func66, Try.ntmps66
    go_wp2_with first | (go_at_call 67; go_call (sizeOf_any r c p t q b d l _ b1 b2 x1 x2 x3) as e2 w2 ⟨rfl, hb2⟩; obtain ⟨hc2, hf2⟩ := bcell hb2; have hB2 : Below w.heap.size w w2 := (below_then (by first | (go_grown; done) | (repeat (first | (with_reducible assumption) | (with_reducible exact Below.refl _ _) | (with_reducible refine below_drewN' ?_ _) | (with_reducible refine Below.drew ?_) | ((with_reducible refine Below.alloc ?_ ?_ _); rotate_left; focus (first | (simp; done) | (simp; omega) | omega)) | ((with_reducible refine Below.setCell ?_ ?_ _); rotate_left; focus (first | (simp; done) | (simp; omega) | omega))))) (by first | omega | (simp; done) | (simp; omega)) hb2); have hz2a : w.heap.size < w2.heap.size := (by have := hb2.size; first | omega | (simp at this; omega))) | (go_at_call 93; go_call (fits_any ((r + 2 * q) * t) ((c + 2 * q) * p) _) as e3 w3 ⟨rfl, hb3⟩; obtain ⟨hc3, hf3⟩ := bcell hb3; have hB3 : Below w.heap.size w w3 := (below_then (by first | (go_grown; done) | (repeat (first | (with_reducible assumption) | (with_reducible exact Below.refl _ _) | (with_reducible refine below_drewN' ?_ _) | (with_reducible refine Below.drew ?_) | ((with_reducible refine Below.alloc ?_ ?_ _); rotate_left; focus (first | (simp; done) | (simp; omega) | omega)) | ((with_reducible refine Below.setCell ?_ ?_ _); rotate_left; focus (first | (simp; done) | (simp; omega) | omega))))) (by first | omega | (simp; done) | (simp; omega)) hb3); have hz3a : w.heap.size < w3.heap.size := (by have := hb3.size; first | omega | (simp at this; omega)); have hz3b : w2.heap.size < w3.heap.size := (by have := hb3.size; first | omega | (simp at this; omega))) | (go_at_call 64; go_call (HP.out _) as e1 w1 ⟨rfl, hb1⟩; obtain ⟨hc1, hf1⟩ := bcell hb1; have hB1 : Below w.heap.size w w1 := (below_then (by first | (go_grown; done) | (repeat (first | (with_reducible assumption) | (with_reducible exact Below.refl _ _) | (with_reducible refine below_drewN' ?_ _) | (with_reducible refine Below.drew ?_) | ((with_reducible refine Below.alloc ?_ ?_ _); rotate_left; focus (first | (simp; done) | (simp; omega) | omega)) | ((with_reducible refine Below.setCell ?_ ?_ _); rotate_left; focus (first | (simp; done) | (simp; omega) | omega))))) (by first | omega | (simp; done) | (simp; omega)) hb1); have hz1a : w.heap.size < w1.heap.size := (by have := hb1.size; first | omega | (simp at this; omega))) | (go_at_call 48; refine (inRange_any _ _ _ _).mono ?_; rintro e w' ⟨rfl, rfl⟩)
    first | go_ret | go_returns | (go_quiet (fail); go_wp2_with (first | (go_at_call 67; go_call (sizeOf_any r c p t q b d l _ b1 b2 x1 x2 x3) as e2 w2 ⟨rfl, hb2⟩; obtain ⟨hc2, hf2⟩ := bcell hb2; have hB2 : Below w.heap.size w w2 := (below_then (by first | (go_grown; done) | (repeat (first | (with_reducible assumption) | (with_reducible exact Below.refl _ _) | (with_reducible refine below_drewN' ?_ _) | (with_reducible refine Below.drew ?_) | ((with_reducible refine Below.alloc ?_ ?_ _); rotate_left; focus (first | (simp; done) | (simp; omega) | omega)) | ((with_reducible refine Below.setCell ?_ ?_ _); rotate_left; focus (first | (simp; done) | (simp; omega) | omega))))) (by first | omega | (simp; done) | (simp; omega)) hb2); have hz2a : w.heap.size < w2.heap.size := (by have := hb2.size; first | omega | (simp at this; omega))) | (go_at_call 93; go_call (fits_any ((r + 2 * q) * t) ((c + 2 * q) * p) _) as e3 w3 ⟨rfl, hb3⟩; obtain ⟨hc3, hf3⟩ := bcell hb3; have hB3 : Below w.heap.size w w3 := (below_then (by first | (go_grown; done) | (repeat (first | (with_reducible assumption) | (with_reducible exact Below.refl _ _) | (with_reducible refine below_drewN' ?_ _) | (with_reducible refine Below.drew ?_) | ((with_reducible refine Below.alloc ?_ ?_ _); rotate_left; focus (first | (simp; done) | (simp; omega) | omega)) | ((with_reducible refine Below.setCell ?_ ?_ _); rotate_left; focus (first | (simp; done) | (simp; omega) | omega))))) (by first | omega | (simp; done) | (simp; omega)) hb3); have hz3a : w.heap.size < w3.heap.size := (by have := hb3.size; first | omega | (simp at this; omega)); have hz3b : w2.heap.size < w3.heap.size := (by have := hb3.size; first | omega | (simp at this; omega))) | (go_at_call 64; go_call (HP.out _) as e1 w1 ⟨rfl, hb1⟩; obtain ⟨hc1, hf1⟩ := bcell hb1; have hB1 : Below w.heap.size w w1 := (below_then (by first | (go_grown; done) | (repeat (first | (with_reducible assumption) | (with_reducible exact Below.refl _ _) | (with_reducible refine below_drewN' ?_ _) | (with_reducible refine Below.drew ?_) | ((with_reducible refine Below.alloc ?_ ?_ _); rotate_left; focus (first | (simp; done) | (simp; omega) | omega)) | ((with_reducible refine Below.setCell ?_ ?_ _); rotate_left; focus (first | (simp; done) | (simp; omega) | omega))))) (by first | omega | (simp; done) | (simp; omega)) hb1); have hz1a : w.heap.size < w1.heap.size := (by have := hb1.size; first | omega | (simp at this; omega))) | (go_at_call 48; refine (inRange_any _ _ _ _).mono ?_; rintro e w' ⟨rfl, rfl⟩)); first | go_ret | go_returns)
    exact ⟨by simp [psK, gK, *], by (repeat (first | (with_reducible assumption) | (with_reducible exact Below.refl _ _) | (with_reducible refine below_drewN' ?_ _) | (with_reducible refine Below.drew ?_) | ((with_reducible refine Below.alloc ?_ ?_ _); rotate_left; focus (first | (simp; done) | (simp; omega) | omega)) | ((with_reducible refine Below.setCell ?_ ?_ _); rotate_left; focus (first | (simp; done) | (simp; omega) | omega))))⟩
  have b1 := inR_true h1
  have b2 := inR_true h2
  have y1 := prt_bd b1 x3 x2
  have y2 := prt_bd b2 x3 x1
  have u1 : IntKind.i64.wrap ((r + 2 * q) * t) = (r + 2 * q) * t := by rw [IntKind.wrap_i64]; omega
  have u2 : IntKind.i64.wrap ((c + 2 * q) * p) = (c + 2 * q) * p := by rw [IntKind.wrap_i64]; omega
  cases h3 : rszB ((r + 2 * q) * t) ((c + 2 * q) * p)
  · go_enter Try.func66, Try.ntmps66
    go_wp2_with first | (go_at_call 67; go_call (sizeOf_any r c p t q b d l _ b1 b2 x1 x2 x3) as e2 w2 ⟨rfl, hb2⟩; obtain ⟨hc2, hf2⟩ := bcell hb2; have hB2 : Below w.heap.size w w2 := (below_then (by first | (go_grown; done) | (repeat (first | (with_reducible assumption) | (with_reducible exact Below.refl _ _) | (with_reducible refine below_drewN' ?_ _) | (with_reducible refine Below.drew ?_) | ((with_reducible refine Below.alloc ?_ ?_ _); rotate_left; focus (first | (simp; done) | (simp; omega) | omega)) | ((with_reducible refine Below.setCell ?_ ?_ _); rotate_left; focus (first | (simp; done) | (simp; omega) | omega))))) (by first | omega | (simp; done) | (simp; omega)) hb2); have hz2a : w.heap.size < w2.heap.size := (by have := hb2.size; first | omega | (simp at this; omega))) | (go_at_call 93; go_call (fits_any ((r + 2 * q) * t) ((c + 2 * q) * p) _) as e3 w3 ⟨rfl, hb3⟩; obtain ⟨hc3, hf3⟩ := bcell hb3; have hB3 : Below w.heap.size w w3 := (below_then (by first | (go_grown; done) | (repeat (first | (with_reducible assumption) | (with_reducible exact Below.refl _ _) | (with_reducible refine below_drewN' ?_ _) | (with_reducible refine Below.drew ?_) | ((with_reducible refine Below.alloc ?_ ?_ _); rotate_left; focus (first | (simp; done) | (simp; omega) | omega)) | ((with_reducible refine Below.setCell ?_ ?_ _); rotate_left; focus (first | (simp; done) | (simp; omega) | omega))))) (by first | omega | (simp; done) | (simp; omega)) hb3); have hz3a : w.heap.size < w3.heap.size := (by have := hb3.size; first | omega | (simp at this; omega)); have hz3b : w2.heap.size < w3.heap.size := (by have := hb3.size; first | omega | (simp at this; omega))) | (go_at_call 64; go_call (HP.out _) as e1 w1 ⟨rfl, hb1⟩; obtain ⟨hc1, hf1⟩ := bcell hb1; have hB1 : Below w.heap.size w w1 := (below_then (by first | (go_grown; done) | (repeat (first | (with_reducible assumption) | (with_reducible exact Below.refl _ _) | (with_reducible refine below_drewN' ?_ _) | (with_reducible refine Below.drew ?_) | ((with_reducible refine Below.alloc ?_ ?_ _); rotate_left; focus (first | (simp; done) | (simp; omega) | omega)) | ((with_reducible refine Below.setCell ?_ ?_ _); rotate_left; focus (first | (simp; done) | (simp; omega) | omega))))) (by first | omega | (simp; done) | (simp; omega)) hb1); have hz1a : w.heap.size < w1.heap.size := (by have := hb1.size; first | omega | (simp at this; omega))) | (go_at_call 48; refine (inRange_any _ _ _ _).mono ?_; rintro e w' ⟨rfl, rfl⟩)
    first | go_ret | go_returns | (go_quiet (fail); go_wp2_with (first | (go_at_call 67; go_call (sizeOf_any r c p t q b d l _ b1 b2 x1 x2 x3) as e2 w2 ⟨rfl, hb2⟩; obtain ⟨hc2, hf2⟩ := bcell hb2; have hB2 : Below w.heap.size w w2 := (below_then (by first | (go_grown; done) | (repeat (first | (with_reducible assumption) | (with_reducible exact Below.refl _ _) | (with_reducible refine below_drewN' ?_ _) | (with_reducible refine Below.drew ?_) | ((with_reducible refine Below.alloc ?_ ?_ _); rotate_left; focus (first | (simp; done) | (simp; omega) | omega)) | ((with_reducible refine Below.setCell ?_ ?_ _); rotate_left; focus (first | (simp; done) | (simp; omega) | omega))))) (by first | omega | (simp; done) | (simp; omega)) hb2); have hz2a : w.heap.size < w2.heap.size := (by have := hb2.size; first | omega | (simp at this; omega))) | (go_at_call 93; go_call (fits_any ((r + 2 * q) * t) ((c + 2 * q) * p) _) as e3 w3 ⟨rfl, hb3⟩; obtain ⟨hc3, hf3⟩ := bcell hb3; have hB3 : Below w.heap.size w w3 := (below_then (by first | (go_grown; done) | (repeat (first | (with_reducible assumption) | (with_reducible exact Below.refl _ _) | (with_reducible refine below_drewN' ?_ _) | (with_reducible refine Below.drew ?_) | ((with_reducible refine Below.alloc ?_ ?_ _); rotate_left; focus (first | (simp; done) | (simp; omega) | omega)) | ((with_reducible refine Below.setCell ?_ ?_ _); rotate_left; focus (first | (simp; done) | (simp; omega) | omega))))) (by first | omega | (simp; done) | (simp; omega)) hb3); have hz3a : w.heap.size < w3.heap.size := (by have := hb3.size; first | omega | (simp at this; omega)); have hz3b : w2.heap.size < w3.heap.size := (by have := hb3.size; first | omega | (simp at this; omega))) | (go_at_call 64; go_call (HP.out _) as e1 w1 ⟨rfl, hb1⟩; obtain ⟨hc1, hf1⟩ := bcell hb1; have hB1 : Below w.heap.size w w1 := (below_then (by first | (go_grown; done) | (repeat (first | (with_reducible assumption) | (with_reducible exact Below.refl _ _) | (with_reducible refine below_drewN' ?_ _) | (with_reducible refine Below.drew ?_) | ((with_reducible refine Below.alloc ?_ ?_ _); rotate_left; focus (first | (simp; done) | (simp; omega) | omega)) | ((with_reducible refine Below.setCell ?_ ?_ _); rotate_left; focus (first | (simp; done) | (simp; omega) | omega))))) (by first | omega | (simp; done) | (simp; omega)) hb1); have hz1a : w.heap.size < w1.heap.size := (by have := hb1.size; first | omega | (simp at this; omega))) | (go_at_call 48; refine (inRange_any _ _ _ _).mono ?_; rintro e w' ⟨rfl, rfl⟩)); first | go_ret | go_returns)
    exact ⟨by simp [psK, gK, *], by (repeat (first | (with_reducible assumption) | (with_reducible exact Below.refl _ _) | (with_reducible refine below_drewN' ?_ _) | (with_reducible refine Below.drew ?_) | ((with_reducible refine Below.alloc ?_ ?_ _); rotate_left; focus (first | (simp; done) | (simp; omega) | omega)) | ((with_reducible refine Below.setCell ?_ ?_ _); rotate_left; focus (first | (simp; done) | (simp; omega) | omega))))⟩
  go_enter Try.func66, Try.ntmps66
  go_wp2_with first | (go_at_call 67; go_call (sizeOf_any r c p t q b d l _ b1 b2 x1 x2 x3) as e2 w2 ⟨rfl, hb2⟩; obtain ⟨hc2, hf2⟩ := bcell hb2; have hB2 : Below w.heap.size w w2 := (below_then (by first | (go_grown; done) | (repeat (first | (with_reducible assumption) | (with_reducible exact Below.refl _ _) | (with_reducible refine below_drewN' ?_ _) | (with_reducible refine Below.drew ?_) | ((with_reducible refine Below.alloc ?_ ?_ _); rotate_left; focus (first | (simp; done) | (simp; omega) | omega)) | ((with_reducible refine Below.setCell ?_ ?_ _); rotate_left; focus (first | (simp; done) | (simp; omega) | omega))))) (by first | omega | (simp; done) | (simp; omega)) hb2); have hz2a : w.heap.size < w2.heap.size := (by have := hb2.size; first | omega | (simp at this; omega))) | (go_at_call 93; go_call (fits_any ((r + 2 * q) * t) ((c + 2 * q) * p) _) as e3 w3 ⟨rfl, hb3⟩; obtain ⟨hc3, hf3⟩ := bcell hb3; have hB3 : Below w.heap.size w w3 := (below_then (by first | (go_grown; done) | (repeat (first | (with_reducible assumption) | (with_reducible exact Below.refl _ _) | (with_reducible refine below_drewN' ?_ _) | (with_reducible refine Below.drew ?_) | ((with_reducible refine Below.alloc ?_ ?_ _); rotate_left; focus (first | (simp; done) | (simp; omega) | omega)) | ((with_reducible refine Below.setCell ?_ ?_ _); rotate_left; focus (first | (simp; done) | (simp; omega) | omega))))) (by first | omega | (simp; done) | (simp; omega)) hb3); have hz3a : w.heap.size < w3.heap.size := (by have := hb3.size; first | omega | (simp at this; omega)); have hz3b : w2.heap.size < w3.heap.size := (by have := hb3.size; first | omega | (simp at this; omega))) | (go_at_call 64; go_call (HP.out _) as e1 w1 ⟨rfl, hb1⟩; obtain ⟨hc1, hf1⟩ := bcell hb1; have hB1 : Below w.heap.size w w1 := (below_then (by first | (go_grown; done) | (repeat (first | (with_reducible assumption) | (with_reducible exact Below.refl _ _) | (with_reducible refine below_drewN' ?_ _) | (with_reducible refine Below.drew ?_) | ((with_reducible refine Below.alloc ?_ ?_ _); rotate_left; focus (first | (simp; done) | (simp; omega) | omega)) | ((with_reducible refine Below.setCell ?_ ?_ _); rotate_left; focus (first | (simp; done) | (simp; omega) | omega))))) (by first | omega | (simp; done) | (simp; omega)) hb1); have hz1a : w.heap.size < w1.heap.size := (by have := hb1.size; first | omega | (simp at this; omega))) | (go_at_call 48; refine (inRange_any _ _ _ _).mono ?_; rintro e w' ⟨rfl, rfl⟩)
  first | go_ret | go_returns | (go_quiet (fail); go_wp2_with (first | (go_at_call 67; go_call (sizeOf_any r c p t q b d l _ b1 b2 x1 x2 x3) as e2 w2 ⟨rfl, hb2⟩; obtain ⟨hc2, hf2⟩ := bcell hb2; have hB2 : Below w.heap.size w w2 := (below_then (by first | (go_grown; done) | (repeat (first | (with_reducible assumption) | (with_reducible exact Below.refl _ _) | (with_reducible refine below_drewN' ?_ _) | (with_reducible refine Below.drew ?_) | ((with_reducible refine Below.alloc ?_ ?_ _); rotate_left; focus (first | (simp; done) | (simp; omega) | omega)) | ((with_reducible refine Below.setCell ?_ ?_ _); rotate_left; focus (first | (simp; done) | (simp; omega) | omega))))) (by first | omega | (simp; done) | (simp; omega)) hb2); have hz2a : w.heap.size < w2.heap.size := (by have := hb2.size; first | omega | (simp at this; omega))) | (go_at_call 93; go_call (fits_any ((r + 2 * q) * t) ((c + 2 * q) * p) _) as e3 w3 ⟨rfl, hb3⟩; obtain ⟨hc3, hf3⟩ := bcell hb3; have hB3 : Below w.heap.size w w3 := (below_then (by first | (go_grown; done) | (repeat (first | (with_reducible assumption) | (with_reducible exact Below.refl _ _) | (with_reducible refine below_drewN' ?_ _) | (with_reducible refine Below.drew ?_) | ((with_reducible refine Below.alloc ?_ ?_ _); rotate_left; focus (first | (simp; done) | (simp; omega) | omega)) | ((with_reducible refine Below.setCell ?_ ?_ _); rotate_left; focus (first | (simp; done) | (simp; omega) | omega))))) (by first | omega | (simp; done) | (simp; omega)) hb3); have hz3a : w.heap.size < w3.heap.size := (by have := hb3.size; first | omega | (simp at this; omega)); have hz3b : w2.heap.size < w3.heap.size := (by have := hb3.size; first | omega | (simp at this; omega))) | (go_at_call 64; go_call (HP.out _) as e1 w1 ⟨rfl, hb1⟩; obtain ⟨hc1, hf1⟩ := bcell hb1; have hB1 : Below w.heap.size w w1 := (below_then (by first | (go_grown; done) | (repeat (first | (with_reducible assumption) | (with_reducible exact Below.refl _ _) | (with_reducible refine below_drewN' ?_ _) | (with_reducible refine Below.drew ?_) | ((with_reducible refine Below.alloc ?_ ?_ _); rotate_left; focus (first | (simp; done) | (simp; omega) | omega)) | ((with_reducible refine Below.setCell ?_ ?_ _); rotate_left; focus (first | (simp; done) | (simp; omega) | omega))))) (by first | omega | (simp; done) | (simp; omega)) hb1); have hz1a : w.heap.size < w1.heap.size := (by have := hb1.size; first | omega | (simp at this; omega))) | (go_at_call 48; refine (inRange_any _ _ _ _).mono ?_; rintro e w' ⟨rfl, rfl⟩)); first | go_ret | go_returns)
  exact ⟨by simp [psK, gK, *], by (repeat (first | (with_reducible assumption) | (with_reducible exact Below.refl _ _) | (with_reducible refine below_drewN' ?_ _) | (with_reducible refine Below.drew ?_) | ((with_reducible refine Below.alloc ?_ ?_ _); rotate_left; focus (first | (simp; done) | (simp; omega) | omega)) | ((with_reducible refine Below.setCell ?_ ?_ _); rotate_left; focus (first | (simp; done) | (simp; omega) | omega))))⟩
set_option maxHeartbeats 4000000 in
theorem sPrintSize_any (r c p t q b d l : Int) (w : World) :
    Calls Try.prog 73 #[.int .i64 r, .int .i64 c, .agg #[.int .i64 p, .int .i64 t, .int .i64 q, .int .i64 b, .int .i64 d, .int .i64 l]] w fun e w' => e = .returned (.tuple #[.int .i64 (gK (psK r c p t q b d l) ((r + 2 * q) * t)), .int .i64 (gK (psK r c p t q b d l) ((c + 2 * q) * p)), .int .i64 (psK r c p t q b d l)]) ∧ Below w.heap.size w w' := by
  have HP := Lib.hid (fun w => sIsPrint_any p t q b d l w)
  cases h0 : prnB p t q b d l
  · rw [h0] at HP
    go_enter Try.func73, Try.ntmps73
    go_wp2_with first | (go_at_call 97; refine (l20Size_any _ _ _).mono ?_; rintro e w' ⟨rfl, rfl⟩) | (go_at_call 71; go_call (HP.out _) as e1 w1 ⟨rfl, hb1⟩; obtain ⟨hc1, hf1⟩ := bcell hb1; have hB1 : Below w.heap.size w w1 := (below_then (by first | (go_grown; done) | (repeat (first | (with_reducible assumption) | (with_reducible exact Below.refl _ _) | (with_reducible refine below_drewN' ?_ _) | (with_reducible refine Below.drew ?_) | ((with_reducible refine Below.alloc ?_ ?_ _); rotate_left; focus (first | (simp; done) | (simp; omega) | omega)) | ((with_reducible refine Below.setCell ?_ ?_ _); rotate_left; focus (first | (simp; done) | (simp; omega) | omega))))) (by first | omega | (simp; done) | (simp; omega)) hb1); have hz1a : w.heap.size < w1.heap.size := (by have := hb1.size; first | omega | (simp at this; omega))) | (go_at_call 44; refine (l01In_any _ _ _ _).mono ?_; rintro e w' ⟨rfl, rfl⟩)
    first | go_ret | go_returns | (go_quiet (fail); go_wp2_with (first | (go_at_call 97; refine (l20Size_any _ _ _).mono ?_; rintro e w' ⟨rfl, rfl⟩) | (go_at_call 71; go_call (HP.out _) as e1 w1 ⟨rfl, hb1⟩; obtain ⟨hc1, hf1⟩ := bcell hb1; have hB1 : Below w.heap.size w w1 := (below_then (by first | (go_grown; done) | (repeat (first | (with_reducible assumption) | (with_reducible exact Below.refl _ _) | (with_reducible refine below_drewN' ?_ _) | (with_reducible refine Below.drew ?_) | ((with_reducible refine Below.alloc ?_ ?_ _); rotate_left; focus (first | (simp; done) | (simp; omega) | omega)) | ((with_reducible refine Below.setCell ?_ ?_ _); rotate_left; focus (first | (simp; done) | (simp; omega) | omega))))) (by first | omega | (simp; done) | (simp; omega)) hb1); have hz1a : w.heap.size < w1.heap.size := (by have := hb1.size; first | omega | (simp at this; omega))) | (go_at_call 44; refine (l01In_any _ _ _ _).mono ?_; rintro e w' ⟨rfl, rfl⟩)); first | go_ret | go_returns)
    exact ⟨by simp [psK, gK, *], by (repeat (first | (with_reducible assumption) | (with_reducible exact Below.refl _ _) | (with_reducible refine below_drewN' ?_ _) | (with_reducible refine Below.drew ?_) | ((with_reducible refine Below.alloc ?_ ?_ _); rotate_left; focus (first | (simp; done) | (simp; omega) | omega)) | ((with_reducible refine Below.setCell ?_ ?_ _); rotate_left; focus (first | (simp; done) | (simp; omega) | omega))))⟩
  have h0' := h0
  rw [h0] at HP
  obtain ⟨x1, x2, x3, x4, x5, x6, x7⟩ := prnB_true h0'
  clear h0'
  cases h1 : inR r 1 400
  · go_enter Try.func73, Try.ntmps73
    go_wp2_with first | (go_at_call 97; refine (l20Size_any _ _ _).mono ?_; rintro e w' ⟨rfl, rfl⟩) | (go_at_call 71; go_call (HP.out _) as e1 w1 ⟨rfl, hb1⟩; obtain ⟨hc1, hf1⟩ := bcell hb1; have hB1 : Below w.heap.size w w1 := (below_then (by first | (go_grown; done) | (repeat (first | (with_reducible assumption) | (with_reducible exact Below.refl _ _) | (with_reducible refine below_drewN' ?_ _) | (with_reducible refine Below.drew ?_) | ((with_reducible refine Below.alloc ?_ ?_ _); rotate_left; focus (first | (simp; done) | (simp; omega) | omega)) | ((with_reducible refine Below.setCell ?_ ?_ _); rotate_left; focus (first | (simp; done) | (simp; omega) | omega))))) (by first | omega | (simp; done) | (simp; omega)) hb1); have hz1a : w.heap.size < w1.heap.size := (by have := hb1.size; first | omega | (simp at this; omega))) | (go_at_call 44; refine (l01In_any _ _ _ _).mono ?_; rintro e w' ⟨rfl, rfl⟩)
    first | go_ret | go_returns | (go_quiet (fail); go_wp2_with (first | (go_at_call 97; refine (l20Size_any _ _ _).mono ?_; rintro e w' ⟨rfl, rfl⟩) | (go_at_call 71; go_call (HP.out _) as e1 w1 ⟨rfl, hb1⟩; obtain ⟨hc1, hf1⟩ := bcell hb1; have hB1 : Below w.heap.size w w1 := (below_then (by first | (go_grown; done) | (repeat (first | (with_reducible assumption) | (with_reducible exact Below.refl _ _) | (with_reducible refine below_drewN' ?_ _) | (with_reducible refine Below.drew ?_) | ((with_reducible refine Below.alloc ?_ ?_ _); rotate_left; focus (first | (simp; done) | (simp; omega) | omega)) | ((with_reducible refine Below.setCell ?_ ?_ _); rotate_left; focus (first | (simp; done) | (simp; omega) | omega))))) (by first | omega | (simp; done) | (simp; omega)) hb1); have hz1a : w.heap.size < w1.heap.size := (by have := hb1.size; first | omega | (simp at this; omega))) | (go_at_call 44; refine (l01In_any _ _ _ _).mono ?_; rintro e w' ⟨rfl, rfl⟩)); first | go_ret | go_returns)
    exact ⟨by simp [psK, gK, *], by (repeat (first | (with_reducible assumption) | (with_reducible exact Below.refl _ _) | (with_reducible refine below_drewN' ?_ _) | (with_reducible refine Below.drew ?_) | ((with_reducible refine Below.alloc ?_ ?_ _); rotate_left; focus (first | (simp; done) | (simp; omega) | omega)) | ((with_reducible refine Below.setCell ?_ ?_ _); rotate_left; focus (first | (simp; done) | (simp; omega) | omega))))⟩
  cases h2 : inR c 1 400
  · go_enter Try.func73, Try.ntmps73
    go_wp2_with first | (go_at_call 97; refine (l20Size_any _ _ _).mono ?_; rintro e w' ⟨rfl, rfl⟩) | (go_at_call 71; go_call (HP.out _) as e1 w1 ⟨rfl, hb1⟩; obtain ⟨hc1, hf1⟩ := bcell hb1; have hB1 : Below w.heap.size w w1 := (below_then (by first | (go_grown; done) | (repeat (first | (with_reducible assumption) | (with_reducible exact Below.refl _ _) | (with_reducible refine below_drewN' ?_ _) | (with_reducible refine Below.drew ?_) | ((with_reducible refine Below.alloc ?_ ?_ _); rotate_left; focus (first | (simp; done) | (simp; omega) | omega)) | ((with_reducible refine Below.setCell ?_ ?_ _); rotate_left; focus (first | (simp; done) | (simp; omega) | omega))))) (by first | omega | (simp; done) | (simp; omega)) hb1); have hz1a : w.heap.size < w1.heap.size := (by have := hb1.size; first | omega | (simp at this; omega))) | (go_at_call 44; refine (l01In_any _ _ _ _).mono ?_; rintro e w' ⟨rfl, rfl⟩)
    first | go_ret | go_returns | (go_quiet (fail); go_wp2_with (first | (go_at_call 97; refine (l20Size_any _ _ _).mono ?_; rintro e w' ⟨rfl, rfl⟩) | (go_at_call 71; go_call (HP.out _) as e1 w1 ⟨rfl, hb1⟩; obtain ⟨hc1, hf1⟩ := bcell hb1; have hB1 : Below w.heap.size w w1 := (below_then (by first | (go_grown; done) | (repeat (first | (with_reducible assumption) | (with_reducible exact Below.refl _ _) | (with_reducible refine below_drewN' ?_ _) | (with_reducible refine Below.drew ?_) | ((with_reducible refine Below.alloc ?_ ?_ _); rotate_left; focus (first | (simp; done) | (simp; omega) | omega)) | ((with_reducible refine Below.setCell ?_ ?_ _); rotate_left; focus (first | (simp; done) | (simp; omega) | omega))))) (by first | omega | (simp; done) | (simp; omega)) hb1); have hz1a : w.heap.size < w1.heap.size := (by have := hb1.size; first | omega | (simp at this; omega))) | (go_at_call 44; refine (l01In_any _ _ _ _).mono ?_; rintro e w' ⟨rfl, rfl⟩)); first | go_ret | go_returns)
    exact ⟨by simp [psK, gK, *], by (repeat (first | (with_reducible assumption) | (with_reducible exact Below.refl _ _) | (with_reducible refine below_drewN' ?_ _) | (with_reducible refine Below.drew ?_) | ((with_reducible refine Below.alloc ?_ ?_ _); rotate_left; focus (first | (simp; done) | (simp; omega) | omega)) | ((with_reducible refine Below.setCell ?_ ?_ _); rotate_left; focus (first | (simp; done) | (simp; omega) | omega))))⟩
  have b1 := inR_true h1
  have b2 := inR_true h2
  have y1 := prt_bd b1 x3 x2
  have y2 := prt_bd b2 x3 x1
  have u1 : IntKind.i64.wrap ((r + 2 * q) * t) = (r + 2 * q) * t := by rw [IntKind.wrap_i64]; omega
  have u2 : IntKind.i64.wrap ((c + 2 * q) * p) = (c + 2 * q) * p := by rw [IntKind.wrap_i64]; omega
  cases h3 : rszB ((r + 2 * q) * t) ((c + 2 * q) * p)
  · go_enter Try.func73, Try.ntmps73
    go_wp2_with first | (go_at_call 97; refine (l20Size_any _ _ _).mono ?_; rintro e w' ⟨rfl, rfl⟩) | (go_at_call 71; go_call (HP.out _) as e1 w1 ⟨rfl, hb1⟩; obtain ⟨hc1, hf1⟩ := bcell hb1; have hB1 : Below w.heap.size w w1 := (below_then (by first | (go_grown; done) | (repeat (first | (with_reducible assumption) | (with_reducible exact Below.refl _ _) | (with_reducible refine below_drewN' ?_ _) | (with_reducible refine Below.drew ?_) | ((with_reducible refine Below.alloc ?_ ?_ _); rotate_left; focus (first | (simp; done) | (simp; omega) | omega)) | ((with_reducible refine Below.setCell ?_ ?_ _); rotate_left; focus (first | (simp; done) | (simp; omega) | omega))))) (by first | omega | (simp; done) | (simp; omega)) hb1); have hz1a : w.heap.size < w1.heap.size := (by have := hb1.size; first | omega | (simp at this; omega))) | (go_at_call 44; refine (l01In_any _ _ _ _).mono ?_; rintro e w' ⟨rfl, rfl⟩)
    first | go_ret | go_returns | (go_quiet (fail); go_wp2_with (first | (go_at_call 97; refine (l20Size_any _ _ _).mono ?_; rintro e w' ⟨rfl, rfl⟩) | (go_at_call 71; go_call (HP.out _) as e1 w1 ⟨rfl, hb1⟩; obtain ⟨hc1, hf1⟩ := bcell hb1; have hB1 : Below w.heap.size w w1 := (below_then (by first | (go_grown; done) | (repeat (first | (with_reducible assumption) | (with_reducible exact Below.refl _ _) | (with_reducible refine below_drewN' ?_ _) | (with_reducible refine Below.drew ?_) | ((with_reducible refine Below.alloc ?_ ?_ _); rotate_left; focus (first | (simp; done) | (simp; omega) | omega)) | ((with_reducible refine Below.setCell ?_ ?_ _); rotate_left; focus (first | (simp; done) | (simp; omega) | omega))))) (by first | omega | (simp; done) | (simp; omega)) hb1); have hz1a : w.heap.size < w1.heap.size := (by have := hb1.size; first | omega | (simp at this; omega))) | (go_at_call 44; refine (l01In_any _ _ _ _).mono ?_; rintro e w' ⟨rfl, rfl⟩)); first | go_ret | go_returns)
    exact ⟨by simp [psK, gK, *], by (repeat (first | (with_reducible assumption) | (with_reducible exact Below.refl _ _) | (with_reducible refine below_drewN' ?_ _) | (with_reducible refine Below.drew ?_) | ((with_reducible refine Below.alloc ?_ ?_ _); rotate_left; focus (first | (simp; done) | (simp; omega) | omega)) | ((with_reducible refine Below.setCell ?_ ?_ _); rotate_left; focus (first | (simp; done) | (simp; omega) | omega))))⟩
  go_enter Try.func73, Try.ntmps73
  go_wp2_with first | (go_at_call 97; refine (l20Size_any _ _ _).mono ?_; rintro e w' ⟨rfl, rfl⟩) | (go_at_call 71; go_call (HP.out _) as e1 w1 ⟨rfl, hb1⟩; obtain ⟨hc1, hf1⟩ := bcell hb1; have hB1 : Below w.heap.size w w1 := (below_then (by first | (go_grown; done) | (repeat (first | (with_reducible assumption) | (with_reducible exact Below.refl _ _) | (with_reducible refine below_drewN' ?_ _) | (with_reducible refine Below.drew ?_) | ((with_reducible refine Below.alloc ?_ ?_ _); rotate_left; focus (first | (simp; done) | (simp; omega) | omega)) | ((with_reducible refine Below.setCell ?_ ?_ _); rotate_left; focus (first | (simp; done) | (simp; omega) | omega))))) (by first | omega | (simp; done) | (simp; omega)) hb1); have hz1a : w.heap.size < w1.heap.size := (by have := hb1.size; first | omega | (simp at this; omega))) | (go_at_call 44; refine (l01In_any _ _ _ _).mono ?_; rintro e w' ⟨rfl, rfl⟩)
  first | go_ret | go_returns | (go_quiet (fail); go_wp2_with (first | (go_at_call 97; refine (l20Size_any _ _ _).mono ?_; rintro e w' ⟨rfl, rfl⟩) | (go_at_call 71; go_call (HP.out _) as e1 w1 ⟨rfl, hb1⟩; obtain ⟨hc1, hf1⟩ := bcell hb1; have hB1 : Below w.heap.size w w1 := (below_then (by first | (go_grown; done) | (repeat (first | (with_reducible assumption) | (with_reducible exact Below.refl _ _) | (with_reducible refine below_drewN' ?_ _) | (with_reducible refine Below.drew ?_) | ((with_reducible refine Below.alloc ?_ ?_ _); rotate_left; focus (first | (simp; done) | (simp; omega) | omega)) | ((with_reducible refine Below.setCell ?_ ?_ _); rotate_left; focus (first | (simp; done) | (simp; omega) | omega))))) (by first | omega | (simp; done) | (simp; omega)) hb1); have hz1a : w.heap.size < w1.heap.size := (by have := hb1.size; first | omega | (simp at this; omega))) | (go_at_call 44; refine (l01In_any _ _ _ _).mono ?_; rintro e w' ⟨rfl, rfl⟩)); first | go_ret | go_returns)
  exact ⟨by simp [psK, gK, *], by (repeat (first | (with_reducible assumption) | (with_reducible exact Below.refl _ _) | (with_reducible refine below_drewN' ?_ _) | (with_reducible refine Below.drew ?_) | ((with_reducible refine Below.alloc ?_ ?_ _); rotate_left; focus (first | (simp; done) | (simp; omega) | omega)) | ((with_reducible refine Below.setCell ?_ ?_ _); rotate_left; focus (first | (simp; done) | (simp; omega) | omega))))⟩

/-- Is a cell of a grid dark? -/
def dkB (R C : Int) (xs : List Int) (r c : Int) : Bool := inR r 0 (R - 1) && inR c 0 (C - 1) && (nth xs (r * C + c).toNat == 1)
theorem dk_idx {R C r c : Int} {n : Nat} (hn : (n : Int) = R * C) (hr : 0 ≤ r ∧ r ≤ R - 1) (hc : 0 ≤ c ∧ c ≤ C - 1) : r * C + c = ((r * C + c).toNat : Int) ∧ (r * C + c).toNat < n := by
  have h1 : 0 ≤ r * C := Int.mul_nonneg hr.1 (by omega)
  have h2 : (r + 1) * C ≤ R * C := Int.mul_le_mul_of_nonneg_right (by omega) (by omega)
  rw [Int.add_mul] at h2
  omega
/-- Are no cells unknown? -/
def posB (xs : List Int) : Bool := xs.all fun x => decide (0 ≤ x)
theorem posB_take {xs : List Int} {k : Nat} (hk : k < xs.length) : posB (xs.take (k + 1)) = (posB (xs.take k) && decide (0 ≤ nth xs k)) := by
  rw [take_nth hk]; simp [posB]
theorem posB_false {xs : List Int} {k : Nat} (hk : k < xs.length) (e : nth xs k < 0) : posB xs = false := by
  cases h : posB xs with
  | false => rfl
  | true => have := List.all_eq_true.1 h _ (nth_mem hk); simp at this; omega
theorem posB_nth {xs : List Int} (h : posB xs = true) {k : Nat} (hk : k < xs.length) : 0 ≤ nth xs k := by
  have := List.all_eq_true.1 h _ (nth_mem hk); simpa using this
set_option maxHeartbeats 1000000 in
theorem hasG_any (R C r c : Int) (v : Value) (w : World) (hR : 1 ≤ R ∧ R ≤ 40000) (hC : 1 ≤ C ∧ C ≤ 40000) :
    Calls Try.prog 120 #[.agg #[.int .i64 R, .int .i64 C, v], .agg #[.int .i64 r, .int .i64 c]] w fun e w' =>
      e = .returned (.bool (inR r 0 (R - 1) && inR c 0 (C - 1))) ∧ Below w.heap.size w w' := by
  cases h1 : inR r 0 (R - 1)
  all_goals
    go_enter Try.func120, Try.ntmps120
    go_wp2_with (go_at_call 48; refine (inRange_any _ _ _ _).mono ?_; rintro e w' ⟨rfl, rfl⟩)
    first | go_ret | go_returns
    exact ⟨by simp, by (repeat (first | (with_reducible assumption) | (with_reducible exact Below.refl _ _) | (with_reducible refine below_drewN' ?_ _) | (with_reducible refine Below.drew ?_) | ((with_reducible refine Below.alloc ?_ ?_ _); rotate_left; focus (first | (simp; done) | (simp; omega) | omega)) | ((with_reducible refine Below.setCell ?_ ?_ _); rotate_left; focus (first | (simp; done) | (simp; omega) | omega))))⟩
set_option maxHeartbeats 1000000 in
theorem atG_any (R C r c : Int) (A : Option Addr) (cp P K : Nat) (xs : List Int) (w : World) (B : Nat) (hr : RI w B A P xs) (hB : B ≤ w.heap.size) (hP : P ≤ 1000000) (hK : r * C + c = (K : Int)) (hKP : K < P) (hc : 0 ≤ c ∧ c ≤ 1000000) :
    Calls Try.prog 121 #[.agg #[.int .i64 R, .int .i64 C, .slice A P cp], .agg #[.int .i64 r, .int .i64 c]] w fun e w' =>
      e = .returned (.int .i64 (nth xs K)) ∧ Below w.heap.size w w' := by
  obtain ⟨b', o', rfl, hb', hc'⟩ := (hr.more hB).cells (by omega)
  have hck := hc' K (by omega)
  clear hc' hr
  go_enter Try.func121, Try.ntmps121
  go_wp2_with fail
  first | go_ret | go_returns
  exact ⟨rfl, by (repeat (first | (with_reducible assumption) | (with_reducible exact Below.refl _ _) | (with_reducible refine below_drewN' ?_ _) | (with_reducible refine Below.drew ?_) | ((with_reducible refine Below.alloc ?_ ?_ _); rotate_left; focus (first | (simp; done) | (simp; omega) | omega)) | ((with_reducible refine Below.setCell ?_ ?_ _); rotate_left; focus (first | (simp; done) | (simp; omega) | omega))))⟩
set_option maxHeartbeats 4000000 in
theorem dark_any (h' w' p t q b d l R C r c : Int) (A : Option Addr) (n cp : Nat) (xs : List Int) (w : World) (B : Nat) (hr : RI w B A n xs) (hB : B ≤ w.heap.size) (hn : (n : Int) = R * C) (hn2 : n ≤ 40000) (hR : 1 ≤ R ∧ R ≤ 40000) (hC : 1 ≤ C ∧ C ≤ 40000) :
    Calls Try.prog 94 #[.agg #[.int .i64 h', .int .i64 w', .int .i64 p, .int .i64 t, .int .i64 q, .int .i64 b, .int .i64 d, .int .i64 l, .int .i64 R, .int .i64 C, .slice A n cp], .int .i64 r, .int .i64 c] w fun e w' =>
      e = .returned (.bool (dkB R C xs r c)) ∧ Below w.heap.size w w' := by
  have HH := Lib.hid (fun w => hasG_any R C r c (.slice A n cp) w hR hC)
  cases h1 : inR r 0 (R - 1)
  · rw [h1] at HH
    clear hr
    go_enter Try.func94, Try.ntmps94
    go_wp2_with (go_at_call 120; with_reducible refine (HH.out _).mono ?_; rintro e1 w1 ⟨rfl, hb1⟩; obtain ⟨hc1, hf1⟩ := bcell hb1; have hB1 : Below w.heap.size w w1 := (below_then (by first | (go_grown; done) | (repeat (first | (with_reducible assumption) | (with_reducible exact Below.refl _ _) | (with_reducible refine below_drewN' ?_ _) | (with_reducible refine Below.drew ?_) | ((with_reducible refine Below.alloc ?_ ?_ _); rotate_left; focus (first | (simp; done) | (simp; omega) | omega)) | ((with_reducible refine Below.setCell ?_ ?_ _); rotate_left; focus (first | (simp; done) | (simp; omega) | omega))))) (by first | omega | (simp; done) | (simp; omega)) hb1))
    first | go_ret | go_returns
    exact ⟨by simp [dkB, h1], by (repeat (first | (with_reducible assumption) | (with_reducible exact Below.refl _ _) | (with_reducible refine below_drewN' ?_ _) | (with_reducible refine Below.drew ?_) | ((with_reducible refine Below.alloc ?_ ?_ _); rotate_left; focus (first | (simp; done) | (simp; omega) | omega)) | ((with_reducible refine Below.setCell ?_ ?_ _); rotate_left; focus (first | (simp; done) | (simp; omega) | omega))))⟩
  cases h2 : inR c 0 (C - 1)
  · rw [h1, h2] at HH
    clear hr
    go_enter Try.func94, Try.ntmps94
    go_wp2_with (go_at_call 120; with_reducible refine (HH.out _).mono ?_; rintro e1 w1 ⟨rfl, hb1⟩; obtain ⟨hc1, hf1⟩ := bcell hb1; have hB1 : Below w.heap.size w w1 := (below_then (by first | (go_grown; done) | (repeat (first | (with_reducible assumption) | (with_reducible exact Below.refl _ _) | (with_reducible refine below_drewN' ?_ _) | (with_reducible refine Below.drew ?_) | ((with_reducible refine Below.alloc ?_ ?_ _); rotate_left; focus (first | (simp; done) | (simp; omega) | omega)) | ((with_reducible refine Below.setCell ?_ ?_ _); rotate_left; focus (first | (simp; done) | (simp; omega) | omega))))) (by first | omega | (simp; done) | (simp; omega)) hb1))
    first | go_ret | go_returns
    exact ⟨by simp [dkB, h1, h2], by (repeat (first | (with_reducible assumption) | (with_reducible exact Below.refl _ _) | (with_reducible refine below_drewN' ?_ _) | (with_reducible refine Below.drew ?_) | ((with_reducible refine Below.alloc ?_ ?_ _); rotate_left; focus (first | (simp; done) | (simp; omega) | omega)) | ((with_reducible refine Below.setCell ?_ ?_ _); rotate_left; focus (first | (simp; done) | (simp; omega) | omega))))⟩
  have r1 := inR_true h1
  have r2 := inR_true h2
  obtain ⟨k1, k2⟩ := dk_idx hn r1 r2
  rw [h1, h2] at HH
  have HA := Lib.hid (fun (w' : World) (hb : Below w.heap.size w w') => atG_any R C r c A cp n _ xs w' w.heap.size ((hr.more hB).below hb) hb.size (by omega) k1 k2 (by omega))
  have HD := Lib.hid (show dkB R C xs r c = (nth xs (r * C + c).toNat == 1) by simp [dkB, h1, h2])
  rw [HD.out]
  generalize nth xs (r * C + c).toNat = x at *
  clear hr h1 h2 k1 k2 hn HD
  go_enter Try.func94, Try.ntmps94
  go_wp2_with first | (go_at_call 120; with_reducible refine (HH.out _).mono ?_; rintro e1 w1 ⟨rfl, hb1⟩; obtain ⟨hc1, hf1⟩ := bcell hb1; have hB1 : Below w.heap.size w w1 := (below_then (by first | (go_grown; done) | (repeat (first | (with_reducible assumption) | (with_reducible exact Below.refl _ _) | (with_reducible refine below_drewN' ?_ _) | (with_reducible refine Below.drew ?_) | ((with_reducible refine Below.alloc ?_ ?_ _); rotate_left; focus (first | (simp; done) | (simp; omega) | omega)) | ((with_reducible refine Below.setCell ?_ ?_ _); rotate_left; focus (first | (simp; done) | (simp; omega) | omega))))) (by first | omega | (simp; done) | (simp; omega)) hb1); have hz1a : w.heap.size < w1.heap.size := (by have := hb1.size; first | omega | (simp at this; omega))) | (go_at_call 121; refine (HA.out _ (by (repeat (first | (with_reducible assumption) | (with_reducible exact Below.refl _ _) | (with_reducible refine below_drewN' ?_ _) | (with_reducible refine Below.drew ?_) | ((with_reducible refine Below.alloc ?_ ?_ _); rotate_left; focus (first | (simp; done) | (simp; omega) | omega)) | ((with_reducible refine Below.setCell ?_ ?_ _); rotate_left; focus (first | (simp; done) | (simp; omega) | omega)))))).mono ?_; rintro e2 w2 ⟨rfl, hb2⟩; obtain ⟨hc2, hf2⟩ := bcell hb2; have hB2 : Below w.heap.size w w2 := (below_then (by first | (go_grown; done) | (repeat (first | (with_reducible assumption) | (with_reducible exact Below.refl _ _) | (with_reducible refine below_drewN' ?_ _) | (with_reducible refine Below.drew ?_) | ((with_reducible refine Below.alloc ?_ ?_ _); rotate_left; focus (first | (simp; done) | (simp; omega) | omega)) | ((with_reducible refine Below.setCell ?_ ?_ _); rotate_left; focus (first | (simp; done) | (simp; omega) | omega))))) (by first | omega | (simp; done) | (simp; omega)) hb2))
  all_goals (first | go_ret | go_returns)
  all_goals (exact ⟨by simp, by (repeat (first | (with_reducible assumption) | (with_reducible exact Below.refl _ _) | (with_reducible refine below_drewN' ?_ _) | (with_reducible refine Below.drew ?_) | ((with_reducible refine Below.alloc ?_ ?_ _); rotate_left; focus (first | (simp; done) | (simp; omega) | omega)) | ((with_reducible refine Below.setCell ?_ ?_ _); rotate_left; focus (first | (simp; done) | (simp; omega) | omega))))⟩)
set_option maxHeartbeats 4000000 in
theorem l21Dark_any (R C r c : Int) (A : Option Addr) (n cp : Nat) (xs : List Int) (w : World) (B : Nat) (hr : RI w B A n xs) (hB : B ≤ w.heap.size) (hn : (n : Int) = R * C) (hn2 : n ≤ 40000) (hR : 1 ≤ R ∧ R ≤ 40000) (hC : 1 ≤ C ∧ C ≤ 40000) :
    Calls Try.prog 98 #[.agg #[.int .i64 R, .int .i64 C, .slice A n cp], .int .i64 r, .int .i64 c] w fun e w' =>
      e = .returned (.bool (dkB R C xs r c)) ∧ Below w.heap.size w w' := by
  cases h1 : inR r 0 (R - 1)
  · clear hr
    go_enter Try.func98, Try.ntmps98
    go_wp2_with (go_at_call 44; refine (l01In_any _ _ _ _).mono ?_; rintro e w' ⟨rfl, rfl⟩)
    first | go_ret | go_returns
    exact ⟨by simp [dkB, h1], by (repeat (first | (with_reducible assumption) | (with_reducible exact Below.refl _ _) | (with_reducible refine below_drewN' ?_ _) | (with_reducible refine Below.drew ?_) | ((with_reducible refine Below.alloc ?_ ?_ _); rotate_left; focus (first | (simp; done) | (simp; omega) | omega)) | ((with_reducible refine Below.setCell ?_ ?_ _); rotate_left; focus (first | (simp; done) | (simp; omega) | omega))))⟩
  cases h2 : inR c 0 (C - 1)
  · clear hr
    go_enter Try.func98, Try.ntmps98
    go_wp2_with (go_at_call 44; refine (l01In_any _ _ _ _).mono ?_; rintro e w' ⟨rfl, rfl⟩)
    first | go_ret | go_returns
    exact ⟨by simp [dkB, h1, h2], by (repeat (first | (with_reducible assumption) | (with_reducible exact Below.refl _ _) | (with_reducible refine below_drewN' ?_ _) | (with_reducible refine Below.drew ?_) | ((with_reducible refine Below.alloc ?_ ?_ _); rotate_left; focus (first | (simp; done) | (simp; omega) | omega)) | ((with_reducible refine Below.setCell ?_ ?_ _); rotate_left; focus (first | (simp; done) | (simp; omega) | omega))))⟩
  have r1 := inR_true h1
  have r2 := inR_true h2
  obtain ⟨k1, k2⟩ := dk_idx hn r1 r2
  obtain ⟨b', o', rfl, hb', hc'⟩ := (hr.more hB).cells (by omega)
  have hck := hc' _ k2
  have HD := Lib.hid (show dkB R C xs r c = (nth xs (r * C + c).toNat == 1) by simp [dkB, h1, h2])
  rw [HD.out]
  generalize (r * C + c).toNat = K at *
  generalize nth xs K = x at *
  clear hr hn HD hc'
  go_enter Try.func98, Try.ntmps98
  go_wp2_with (go_at_call 44; refine (l01In_any _ _ _ _).mono ?_; rintro e w' ⟨rfl, rfl⟩)
  all_goals (first | go_ret | go_returns)
  all_goals (exact ⟨by simp, by (repeat (first | (with_reducible assumption) | (with_reducible exact Below.refl _ _) | (with_reducible refine below_drewN' ?_ _) | (with_reducible refine Below.drew ?_) | ((with_reducible refine Below.alloc ?_ ?_ _); rotate_left; focus (first | (simp; done) | (simp; omega) | omega)) | ((with_reducible refine Below.setCell ?_ ?_ _); rotate_left; focus (first | (simp; done) | (simp; omega) | omega))))⟩)
set_option maxHeartbeats 1000000 in
theorem known_any (r c : Int) (A : Option Addr) (n cp : Nat) (xs : List Int) (w : World) (B : Nat) (hr : RI w B A n xs) (hB : B ≤ w.heap.size) (hn : n ≤ 1000000000000000) :
    Calls Try.prog 65 #[.agg #[.int .i64 r, .int .i64 c, .slice A n cp]] w fun e w' => e = .returned (.bool (posB xs)) ∧ Below w.heap.size w w' := by
  have HL := Lib.hid hr.len
  have HR := Lib.hid (hr.alloc hB (.cells #[.int .i64 r, .int .i64 c, .slice A n cp] 41))
  clear hr
  go_enter Try.func65, Try.ntmps65
  go_wp2_with fail
  go_loop [8] (fun i => ∃ k : Nat, k ≤ n ∧ i = .int .i64 k ∧ Hid (posB (xs.take k) = true)) (fun i => n - (intOf i).toNat)
  case atStart => exact ⟨0, Nat.zero_le _, rfl, rfl⟩
  case round =>
    obtain ⟨k, hk, rfl, hall⟩ := hrel
    by_cases hlt : k < n
    · obtain ⟨b, o, rfl, hb, hc⟩ := HR.out.cells (by omega)
      have hck := hc k hlt
      clear hc
      by_cases he : nth xs k < 0
      · have he' := Lib.hid he
        go_wp2_with fail
        go_ret
        exact ⟨ret_bool (by rw [posB_false (by rw [HL.out]; exact hlt) he'.out]), by go_grown⟩
      · have he' := Lib.hid he
        go_wp2_with fail
        go_round
        case rel => exact ⟨k + 1, by omega, by go_num, by rw [posB_take (by rw [HL.out]; exact hlt), hall.out, decide_eq_true (by have := he'.out; omega)]; rfl⟩
        case measure => simp [intOf]; omega
    · have hkn : k = n := by omega
      have hA : posB xs = true := by have := hall.out; rwa [hkn, List.take_of_length_le (by rw [HL.out]; exact Nat.le_refl _)] at this
      have HA := Lib.hid hA
      clear hA hkn
      go_wp2_with fail
      go_ret
      exact ⟨ret_bool (by rw [HA.out]), by go_grown⟩
end Go.Proofs.Ytflpllmbpfdnjaa
namespace Go.Proofs.Ytflpllmbpfdnjaa
set_option linter.unusedSimpArgs false
open Go.RowKit Go.Deep

/-- A raster under way: its block p holds the row of the pixels xs; the result's block is still empty. -/
structure RaP (w0 : World) (p : Nat) (R C : Int) (xs : List Int) (w : World) (v : Value) : Prop where
  bl : Below w0.heap.size w0 w
  p0 : w0.heap.size + 1 ≤ p
  z : w.heap[w0.heap.size]? = some (.cells #[.int .i64 0, .int .i64 0, .slice none 0 0] 32 (0, 0))
  k : w.heap[p]? = some (.cells #[.int .i64 R, .int .i64 C, v] 32 (0, 0))
  own : Own w (w0.heap.size + 1) v xs
  ne : v.ownBlock ≠ some p
theorem RaP.lt {w0 : World} {p : Nat} {R C : Int} {xs : List Int} {w : World} {v : Value} (h : RaP w0 p R C xs w v) : p < w.heap.size := lt_of_block h.k
theorem RaP.below {w0 : World} {p : Nat} {R C : Int} {xs : List Int} {w w' : World} {v : Value} (h : RaP w0 p R C xs w v) (hb : Below w.heap.size w w') : RaP w0 p R C xs w' v := by
  have hl := h.lt
  have hp := h.p0
  have hs := h.bl.size
  exact ⟨h.bl.trans (hb.mono hs), hp, blk_below h.z hb (by omega), blk_below h.k hb hl, h.own.keep hb, h.ne⟩
theorem RaP.drew {w0 : World} {p : Nat} {R C : Int} {xs : List Int} {w : World} {v : Value} (h : RaP w0 p R C xs w v) : RaP w0 p R C xs w.drew v := h.below (Below.refl _ _).drew
theorem RaP.snoc {w0 : World} {p : Nat} {R C : Int} {xs ys : List Int} {w w' : World} {v v' : Value} {o : Obj} (h : RaP w0 p R C xs w v) (ho : Own w' (w0.heap.size + 1) v' ys) (hg : (w.alloc o).grownBy w' v.ownBlock) (hat : v'.ownBlock = v.ownBlock ∨ v'.ownBlock = some (w.alloc o).heap.size) : RaP w0 p R C ys (w'.setCell ⟨p, 2, none⟩ v') v' := by
  have hl := h.lt
  have hp := h.p0
  have hr : ∀ k, v.ownBlock = some k → w0.heap.size + 1 ≤ k := fun k e => (World.ownsRow.lt h.own k e).1
  have hs := hg.size
  rw [World.size_alloc] at hs
  have k1 := (hg.block p (by simp; omega) (fun e => h.ne e.symm)).trans (blk_alloc (u := o) h.k hl)
  have hne : v'.ownBlock ≠ some p := by
    rcases hat with e | e
    · rw [e]; exact h.ne
    · rw [e]; simp; omega
  refine ⟨?_, hp, ?_, blk3_2 (u := v') k1, ?_, hne⟩
  · exact (((h.bl.alloc h.bl.size o).grown hg (by rw [World.size_alloc]; have := h.bl.size; omega) (fun k e => by have := hr k e; omega))).setCell (by simp; omega) _
  · refine blk_other ((hg.block _ (by simp; omega) (fun e => ?_)).trans (blk_alloc h.z (by omega))) (by omega)
    have := hr _ e.symm; omega
  · refine World.ownsRow.kept ho (grown_set (World.grownBy.refl w' (some p)) _) ?_
    cases hv : v'.ownBlock with
    | none => exact .inl rfl
    | some k => exact .inr fun e => hne (hv.trans e)
set_option maxRecDepth 20000 in
set_option maxHeartbeats 4000000 in
theorem raster_any (R C : Nat) (F : FuncId) (fst cap : Array Value) (f : Nat → Nat → Int) (w : World)
    (HF : ∀ r c : Nat, r < R → c < C → ∀ w', Below w.heap.size w w' → Calls Try.prog F (fst ++ (#[.int .i64 r, .int .i64 c] ++ cap)) w' fun e w'' => e = .returned (.int .i64 (f r c)) ∧ Below w'.heap.size w' w'')
    (HEN : ∀ (args : Array Value) (w : World), (callFunc F args).run Try.prog w = .ok (.enter F args) w)
    (hR : R ≤ 400) (hC : C ≤ 400) (hRC : R * C ≤ 40000) :
    Calls Try.prog 68 #[.int .i64 R, .int .i64 C, .func (.func F) fst cap] w fun e w' => ∃ v, e = .returned (.agg #[.int .i64 R, .int .i64 C, v]) ∧ Own w' w.heap.size v (grdL R C f) ∧ Below w.heap.size w w' := by
  obtain ⟨i0, hi⟩ := info_own' info_i64s
  have HI := Lib.hid (And.intro i0.bytes.le_refl hi)
  clear hi
  have HFH := Lib.hid HF
  clear HF
  obtain ⟨N, hN⟩ : ∃ N, R * C = N := ⟨_, rfl⟩
  have e1 : (R : Int) * (C : Int) = (N : Int) := by rw [← hN]; simp
  have hNb : N ≤ 40000 := by omega
  have HN := Lib.hid hN
  have hGl : Hid ((grdL R C f).length = N) := Lib.hid ((grdL_len R C f).trans hN)
  clear hN hRC
  go_enter Try.func68, Try.ntmps68
  go_wp2_with (at_make; refine wpList_make_own (w.alloc (.cells #[.int .i64 0, .int .i64 0, .slice none 0 0] 32)) rfl _ _ 22 rfl (w.heap.size + 1) 2 i0 (.int .i64 0) 1 Try.underlying22 HI.out.2.1 HI.out.2.2.1 HI.out.2.2.2.1 .i64 .i64 (N : Int) N (by rfl) (by rfl) rfl (by rw [HI.out.2.2.2.2]; omega) (by unfold maxLen; omega) (by simp) ?_; intro w1 hown1 hgrow1; have hs1 := hgrow1.size)
  have HB1 : Hid (Below (w.heap.size + 1) (w.alloc (.cells #[.int .i64 0, .int .i64 0, .slice none 0 0] 32)) w1) := Lib.hid ((Below.refl _ _).grown hgrow1 (by simp) (fun k hk => by cases hk))
  simp only [World.size_alloc] at hs1 hown1
  have HP0 : Hid (RaP w w1.heap.size R C [] (w1.alloc (.cells #[.int .i64 R, .int .i64 C, .slice (some ⟨w.heap.size + 1, 0, none⟩) 0 N] 32)) (.slice (some ⟨w.heap.size + 1, 0, none⟩) 0 N)) := Lib.hid ⟨(((by go_grown : Below w.heap.size w (w.alloc (.cells #[.int .i64 0, .int .i64 0, .slice none 0 0] 32))).trans (HB1.out.mono (Nat.le_succ _)))).alloc (by omega) _, hs1, blk_alloc (blk_below (heap_alloc_new _ _) HB1.out (Nat.lt_succ_self _)) (by omega), heap_alloc_new _ _,
    (show Own w1 (w.heap.size + 1) (.slice (some ⟨w.heap.size + 1, 0, none⟩) 0 N) [] by unfold Own; simpa using hown1).keep (by go_grown), fun e => by have := (World.ownsRow.lt hown1 _ e).2; omega⟩
  generalize hp : w1.heap.size = p at *
  have hpw : w.heap.size + 1 ≤ p := hs1
  generalize w1.alloc (.cells #[.int .i64 R, .int .i64 C, .slice (some ⟨w.heap.size + 1, 0, none⟩) 0 N] 32) = w2 at *
  clear hown1 hgrow1 hs1 HB1 hp
  go_wp2_with fail
  go_loopw [8] (fun row wr => ∃ k : Nat, k ≤ R ∧ row = .int .i64 k ∧ Hid (∃ v, RaP w p R C ((grdL R C f).take (k * C)) wr v))
    (fun row _ => R - (intOf row).toNat)
  case atStart => exact ⟨0, Nat.zero_le _, rfl, Lib.hid ⟨_, by simpa using HP0.out⟩⟩
  case round =>
    obtain ⟨k, hk, rfl, hrp⟩ := hrel
    by_cases hlt : k < R
    · have hki : (k : Int) < (R : Int) := by omega
      go_wp2_with fail
      go_loopw [9] (fun col wr => ∃ j : Nat, j ≤ C ∧ col = .int .i64 j ∧ Hid (∃ v, RaP w p R C ((grdL R C f).take (k * C + j)) wr v))
        (fun col _ => C - (intOf col).toNat)
      case atStart => exact ⟨0, Nat.zero_le _, rfl, hrp⟩
      case round =>
        clear hrp
        rename World => wo
        obtain ⟨j, hj, rfl, hrp⟩ := hrel
        by_cases hlt2 : j < C
        · have hji : (j : Int) < (C : Int) := by omega
          obtain ⟨v, hv⟩ := hrp.out
          have HV := Lib.hid hv
          have hlen : k * C + j < (grdL R C f).length := by rw [grdL_len]; exact cell_lt2 hlt hlt2
          have htk := take_nth hlen
          rw [grdL_nth (f := f) hlt hlt2] at htk
          have HT := Lib.hid htk
          have HFK := Lib.hid (fun w' hb => HFH.out k j hlt hlt2 w' hb)
          have hL : ((grdL R C f).take (k * C + j)).length ≤ 40000 := by rw [List.length_take, hGl.out]; omega
          have HLL := Lib.hid hL
          obtain ⟨c0, c1, c2, cf⟩ := blk3 hv.k
          have hpo := hv.lt
          have hBr := hv.bl
          have hzr : w.heap.size < wo.heap.size := by omega
          clear htk hlen hv hrp hL
          generalize f k j = V at *
          go_wp2_with fail
          have hLL := HLL.out
          skip
          obtain ⟨J, hJ⟩ : ∃ J, ((grdL R C f).take (k * C + j)).length = J := ⟨_, rfl⟩
          have hcount : J + 1 ≤ maxLen := by unfold maxLen; omega
          have hJb : J ≤ 40000 := by omega
          have HJ := Lib.hid hJ
          clear hJ hLL
          go_region_law (first
              | (refine step_append_lies _ (by rfl) _ _ 22 (by rfl) (w.heap.size + 1) 2 i0 (.int .i64 0) 1 8 Try.underlying22 HI.out.2.1 HI.out.2.2.1 HI.out.2.2.2.1 HI.out.2.2.2.2 rfl (by decide) v J _ (by rfl) (by have := Own.alloc HV3.out.own (.cells #[.int .i64 V] 2); rw [HJ.out] at this; exact this) ⟨w3.heap.size, 0, none⟩ 1 1 [.int .i64 V] (by rfl) (by rfl) (cell_one_new _ _ _) (one_ok _) (by decide) hcount (by omega) (by simp; omega) (w3.heap.size + 1) (by simp) ?_; intro gg cap wa hoa0 hga hat hlt; have hoa := Lib.hid (Own.snoc (by rw [HJ.out]; exact hoa0)); have hka := Lib.hid ((hga.block p (by simp; omega) (fun e => HV3.out.ne e.symm)).trans (blk_alloc HV3.out.k hz3b)); obtain ⟨y0, y1, y2, yf⟩ := blk3 hka.out; have HFIN := Lib.hid (HV3.out.snoc hoa.out hga (hat.imp (fun e => by rw [e]; rfl) (fun e => by rw [e]; simp [Value.ownBlock]))); clear hoa0 hga hat)
              | (go_simp; (with_reducible refine (HFK.out _ (by (repeat (first | (with_reducible assumption) | (with_reducible exact Below.refl _ _) | (with_reducible refine below_drewN' ?_ _) | (with_reducible refine Below.drew ?_) | ((with_reducible refine Below.alloc ?_ ?_ _); rotate_left; focus (first | (simp; done) | (simp; omega) | omega)) | ((with_reducible refine Below.setCell ?_ ?_ _); rotate_left; focus (first | (simp; done) | (simp; omega) | omega)))))).mono ?_; rintro e3 w3 ⟨rfl, hb3⟩; have hs3 := hb3.size; have hz3b : p < w3.heap.size := (by first | omega | (simp at hs3; omega)); (first | have HV3 := Lib.hid (HV.out.below hb3) | have HV3 := Lib.hid (HV.out.drew.below hb3)); obtain ⟨x0, x1, x2, xf⟩ := blk3 HV3.out.k; clear hb3)))
          all_goals
            go_wp2_with fail
            go_roundw
            case rel => exact ⟨j + 1, by omega, by go_num, Lib.hid ⟨_, by rw [show k * C + (j + 1) = k * C + j + 1 from rfl, HT.out]; exact HFIN.out⟩⟩
            case measure => simp [intOf]; omega
        · have hjn : j = C := by omega
          have hji : ¬ ((j : Int) < (C : Int)) := by omega
          go_wp2_with fail
          go_roundw
          case rel => exact ⟨k + 1, by omega, by go_num, Lib.hid (by have := hrp.out; rwa [show k * C + j = (k + 1) * C from by rw [hjn, Nat.add_mul, Nat.one_mul]] at this)⟩
          case measure => simp [intOf]; omega
    · have hkn : k = R := by omega
      have hki : ¬ ((k : Int) < (R : Int)) := by omega
      obtain ⟨v, hv⟩ := hrp.out
      rw [List.take_of_length_le (by rw [hGl.out, hkn, HN.out]; exact Nat.le_refl _)] at hv
      obtain ⟨c0, c1, c2, cf⟩ := blk3 hv.k
      obtain ⟨z0, z1, z2, zf⟩ := blk3 hv.z
      obtain ⟨A', c', rfl, -⟩ := hv.own.shape
      have HV := Lib.hid hv
      rw [hGl.out] at c2 HV
      obtain ⟨s0, s1, s2⟩ := res3 hv.z (.int .i64 R) (.int .i64 C) (.slice A' N c')
      clear hv hrp
      go_wp2_with fail
      (try simp only [Exit.inBlock, Exit.then]); refine bodyPost_ret (by simp [results, Try.results68, go_sem, s0, s1, s2]; try rfl) rfl ?_
      exact ⟨_, rfl, ((((HV.out.own.setLt (p := ⟨w.heap.size, 0, none⟩) (Nat.lt_succ_self _) _).setLt (p := ⟨w.heap.size, 1, none⟩) (Nat.lt_succ_self _) _).setLt (p := ⟨w.heap.size, 2, none⟩) (Nat.lt_succ_self _) _)).more (Nat.le_succ _), ((HV.out.bl.setCell (Nat.le_refl _) _).setCell (Nat.le_refl _) _).setCell (Nat.le_refl _) _⟩
end Go.Proofs.Ytflpllmbpfdnjaa
namespace Go.Proofs.Ytflpllmbpfdnjaa
set_option linter.unusedSimpArgs false
open Go.RowKit Go.Deep

/-- The pixel of a print without bleed. -/
def pixV (R C : Int) (xs : List Int) (p t q : Nat) (d l : Int) (y x : Nat) : Int := if dkB R C xs (((y / t : Nat) : Int) - (q : Int)) (((x / p : Nat) : Int) - (q : Int)) then d else l
theorem gK_0 (x : Int) : gK 0 x = x := rfl
theorem gK_no {k : Int} (h : k ≠ 0) {x : Int} : gK k x = 0 := by unfold gK; rw [if_neg h]
theorem psK_0 {r c p t q b d l : Int} (h : psK r c p t q b d l = 0) : (1 ≤ r ∧ r ≤ 400) ∧ (1 ≤ c ∧ c ≤ 400) ∧ rszB ((r + 2 * q) * t) ((c + 2 * q) * p) = true := by
  unfold psK at h
  split at h
  · split at h
    · rename_i h2
      simp only [Bool.and_eq_true] at h2
      split at h
      · rename_i h3
        exact ⟨inR_true h2.1, inR_true h2.2, h3⟩
      · simp at h
    · simp at h
  · simp at h
/-- The code, and the pixels, of a printed grid. -/
def prK (R C : Int) (xs : List Int) (p t q d l : Int) : Int := if gridB R C xs then if prnB p t q 0 d l then if posB xs then psK R C p t q 0 d l else 5 else 1 else 1
def prL (R C : Int) (xs : List Int) (p t q d l : Int) : List Int := if prK R C xs p t q d l = 0 then grdL ((R + 2 * q) * t).toNat ((C + 2 * q) * p).toNat (pixV R C xs p.toNat t.toNat q.toNat d l) else []
theorem blk6p {w : World} {b t : Nat} {x0 x1 x2 x3 x4 x5 : Value} (h : w.heap[b]? = some (.cells #[x0, x1, x2, x3, x4, x5] t (0, 0))) :
    w.cell? ⟨b, 0, none⟩ = some x0 ∧ w.cell? ⟨b, 1, none⟩ = some x1 ∧ w.cell? ⟨b, 2, none⟩ = some x2 ∧ w.cell? ⟨b, 3, none⟩ = some x3 ∧ w.cell? ⟨b, 4, none⟩ = some x4 ∧ w.cell? ⟨b, 5, none⟩ = some x5 ∧ ∀ k, w.frozen? ⟨b, k, none⟩ = false := by
  refine ⟨?_, ?_, ?_, ?_, ?_, ?_, fun k => ?_⟩ <;> simp [World.cell?, World.frozen?, h]
/-- Does a list have a number? -/
def hasB (n : Int) (xs : List Int) : Bool := xs.any (· == n)
theorem hasB_hit {n : Int} {xs : List Int} {k : Nat} (hk : k < xs.length) (h : nth xs k = n) : hasB n xs = true := by
  unfold hasB; rw [List.any_eq_true]; exact ⟨_, nth_mem hk, by simp [h]⟩
theorem hasB_take {n : Int} {xs : List Int} {k : Nat} (hk : k < xs.length) : hasB n (xs.take (k + 1)) = (hasB n (xs.take k) || (nth xs k == n)) := by
  rw [take_nth hk]; simp [hasB]

theorem blk11 {w : World} {b t : Nat} {x0 x1 x2 x3 x4 x5 x6 x7 x8 x9 x10 : Value} (h : w.heap[b]? = some (.cells #[x0, x1, x2, x3, x4, x5, x6, x7, x8, x9, x10] t (0, 0))) :
    w.cell? ⟨b, 0, none⟩ = some x0 ∧ w.cell? ⟨b, 1, none⟩ = some x1 ∧ w.cell? ⟨b, 2, none⟩ = some x2 ∧ w.cell? ⟨b, 3, none⟩ = some x3 ∧ w.cell? ⟨b, 4, none⟩ = some x4 ∧ w.cell? ⟨b, 5, none⟩ = some x5 ∧ w.cell? ⟨b, 6, none⟩ = some x6 ∧ w.cell? ⟨b, 7, none⟩ = some x7 ∧ w.cell? ⟨b, 8, none⟩ = some x8 ∧ w.cell? ⟨b, 9, none⟩ = some x9 ∧ w.cell? ⟨b, 10, none⟩ = some x10 ∧ ∀ k, w.frozen? ⟨b, k, none⟩ = false := by
  refine ⟨?_, ?_, ?_, ?_, ?_, ?_, ?_, ?_, ?_, ?_, ?_, fun k => ?_⟩ <;> simp [World.cell?, World.frozen?, h]
theorem res11 {w : World} {b t : Nat} {x0 x1 x2 x3 x4 x5 x6 x7 x8 x9 x10 : Value} (h : w.heap[b]? = some (.cells #[x0, x1, x2, x3, x4, x5, x6, x7, x8, x9, x10] t (0, 0))) (y0 y1 y2 y3 y4 y5 y6 y7 y8 y9 y10 : Value) :
    (w |>.setCell ⟨b, 0, none⟩ y0 |>.setCell ⟨b, 1, none⟩ y1 |>.setCell ⟨b, 2, none⟩ y2 |>.setCell ⟨b, 3, none⟩ y3 |>.setCell ⟨b, 4, none⟩ y4 |>.setCell ⟨b, 5, none⟩ y5 |>.setCell ⟨b, 6, none⟩ y6 |>.setCell ⟨b, 7, none⟩ y7 |>.setCell ⟨b, 8, none⟩ y8 |>.setCell ⟨b, 9, none⟩ y9 |>.setCell ⟨b, 10, none⟩ y10).heap[b]? = some (.cells #[y0, y1, y2, y3, y4, y5, y6, y7, y8, y9, y10] t (0, 0)) := by
  have h0 := blk3_set (k := 0) (u := y0) h
  have h1 := blk3_set (k := 1) (u := y1) h0
  have h2 := blk3_set (k := 2) (u := y2) h1
  have h3 := blk3_set (k := 3) (u := y3) h2
  have h4 := blk3_set (k := 4) (u := y4) h3
  have h5 := blk3_set (k := 5) (u := y5) h4
  have h6 := blk3_set (k := 6) (u := y6) h5
  have h7 := blk3_set (k := 7) (u := y7) h6
  have h8 := blk3_set (k := 8) (u := y8) h7
  have h9 := blk3_set (k := 9) (u := y9) h8
  have h10 := blk3_set (k := 10) (u := y10) h9
  simpa using h10
theorem hasB_pos {xs : List Int} (h : allIn (-1) 1 xs = true) : hasB (-1) xs = !posB xs := by
  unfold hasB posB
  induction xs with
  | nil => rfl
  | cons x xs ih =>
    simp only [allIn, List.all_cons, Bool.and_eq_true] at h
    have h1 := inR_true h.1
    have h2 := ih h.2
    simp only [List.any_cons, List.all_cons, Bool.not_and]
    rw [h2]
    congr 1
    by_cases e : x = -1
    · subst e; rfl
    · have e1 : (x == -1) = false := by simpa using e
      have e2 : decide (0 ≤ x) = true := by simp; omega
      simp [e1, e2, e, eq_comm]
set_option maxHeartbeats 1000000 in
theorem l05Has_any (x : Int) (A : Option Addr) (n cp : Nat) (xs : List Int) (w : World) (B : Nat) (hr : RI w B A n xs) (hn : n ≤ 1000000000000000) :
    Calls Try.prog 96 #[.slice A n cp, .int .i64 x] w fun e w' => e = .returned (.bool (hasB x xs)) ∧ w = w' := by
  have HL := Lib.hid hr.len
  have HR := Lib.hid hr
  clear hr
  go_enter Try.func96, Try.ntmps96
  go_wp2_with fail
  go_loop [5] (fun i => ∃ k : Nat, k ≤ n ∧ i = .int .i64 k ∧ Hid (hasB x (xs.take k) = false)) (fun i => n - (intOf i).toNat)
  case atStart => exact ⟨0, Nat.zero_le _, rfl, Lib.hid rfl⟩
  case round =>
    obtain ⟨k, hk, rfl, hno⟩ := hrel
    by_cases hlt : k < n
    · obtain ⟨b, o, rfl, hb, hc⟩ := HR.out.cells (by omega)
      have hck := hc k hlt
      clear hc
      by_cases he : nth xs k = x
      · have HF := Lib.hid (hasB_hit (by rw [HL.out]; exact hlt) he)
        rw [he] at hck
        clear he
        go_wp2_with fail
        go_ret
        exact ⟨ret_bool HF.out.symm, rfl⟩
      · have he' : (nth xs k == x) = false := by simpa using he
        have HS : Hid (hasB x (xs.take (k + 1)) = false) := Lib.hid (by rw [hasB_take (by rw [HL.out]; exact hlt), hno.out, he']; rfl)
        clear he
        go_wp2_with fail
        go_round
        case rel => exact ⟨k + 1, by omega, by go_num, HS⟩
        case measure => simp [intOf]; omega
    · have HF : Hid (hasB x xs = false) := Lib.hid (by have := hno.out; rwa [List.take_of_length_le (by rw [HL.out]; omega)] at this)
      go_wp2_with fail
      go_ret
      exact ⟨ret_bool HF.out.symm, rfl⟩
set_option maxHeartbeats 1000000 in
theorem l16Known_any (r c : Int) (A : Option Addr) (n cp : Nat) (xs : List Int) (w : World) (B : Nat) (hr : RI w B A n xs) (hB : B ≤ w.heap.size) (hn : n ≤ 1000000000000000) :
    Calls Try.prog 72 #[.agg #[.int .i64 r, .int .i64 c, .slice A n cp]] w fun e w' => e = .returned (.bool (gridB r c xs && posB xs)) ∧ Below w.heap.size w w' := by
  have HA := Lib.hid (fun (w' : World) (hb : Below w.heap.size w w') => sIsGrid_any r c A n cp xs w' w.heap.size ((hr.more hB).below hb) hb.size hn)
  have HH := Lib.hid (fun (w' : World) (hb : Below w.heap.size w w') => l05Has_any (-1) A n cp xs w' w.heap.size ((hr.more hB).below hb) hn)
  cases h1 : gridB r c xs
  · rw [h1] at HA
    clear hr h1 HH
    go_enter Try.func72, Try.ntmps72
    go_wp2_with (go_at_call 70; go_call (HA.out _ (by (repeat (first | (with_reducible assumption) | (with_reducible exact Below.refl _ _) | (with_reducible refine below_drewN' ?_ _) | (with_reducible refine Below.drew ?_) | ((with_reducible refine Below.alloc ?_ ?_ _); rotate_left; focus (first | (simp; done) | (simp; omega) | omega)) | ((with_reducible refine Below.setCell ?_ ?_ _); rotate_left; focus (first | (simp; done) | (simp; omega) | omega)))))) as e1 w1 ⟨rfl, hb1⟩; obtain ⟨hc1, hf1⟩ := bcell hb1; have hB1 : Below w.heap.size w w1 := (below_then (by first | (go_grown; done) | (repeat (first | (with_reducible assumption) | (with_reducible exact Below.refl _ _) | (with_reducible refine below_drewN' ?_ _) | (with_reducible refine Below.drew ?_) | ((with_reducible refine Below.alloc ?_ ?_ _); rotate_left; focus (first | (simp; done) | (simp; omega) | omega)) | ((with_reducible refine Below.setCell ?_ ?_ _); rotate_left; focus (first | (simp; done) | (simp; omega) | omega))))) (by first | omega | (simp; done) | (simp; omega)) hb1); have hz1a : w.heap.size < w1.heap.size := (by have := hb1.size; first | omega | (simp at this; omega)))
    first | go_ret | go_returns
    exact ⟨by simp, by (repeat (first | (with_reducible assumption) | (with_reducible exact Below.refl _ _) | (with_reducible refine below_drewN' ?_ _) | (with_reducible refine Below.drew ?_) | ((with_reducible refine Below.alloc ?_ ?_ _); rotate_left; focus (first | (simp; done) | (simp; omega) | omega)) | ((with_reducible refine Below.setCell ?_ ?_ _); rotate_left; focus (first | (simp; done) | (simp; omega) | omega))))⟩
  · rw [h1] at HA
    rw [hasB_pos (gridB_true h1).2.2.2.2] at HH
    clear hr h1
    go_enter Try.func72, Try.ntmps72
    go_wp2_with first | (go_at_call 70; go_call (HA.out _ (by (repeat (first | (with_reducible assumption) | (with_reducible exact Below.refl _ _) | (with_reducible refine below_drewN' ?_ _) | (with_reducible refine Below.drew ?_) | ((with_reducible refine Below.alloc ?_ ?_ _); rotate_left; focus (first | (simp; done) | (simp; omega) | omega)) | ((with_reducible refine Below.setCell ?_ ?_ _); rotate_left; focus (first | (simp; done) | (simp; omega) | omega)))))) as e1 w1 ⟨rfl, hb1⟩; obtain ⟨hc1, hf1⟩ := bcell hb1; have hB1 : Below w.heap.size w w1 := (below_then (by first | (go_grown; done) | (repeat (first | (with_reducible assumption) | (with_reducible exact Below.refl _ _) | (with_reducible refine below_drewN' ?_ _) | (with_reducible refine Below.drew ?_) | ((with_reducible refine Below.alloc ?_ ?_ _); rotate_left; focus (first | (simp; done) | (simp; omega) | omega)) | ((with_reducible refine Below.setCell ?_ ?_ _); rotate_left; focus (first | (simp; done) | (simp; omega) | omega))))) (by first | omega | (simp; done) | (simp; omega)) hb1); have hz1a : w.heap.size < w1.heap.size := (by have := hb1.size; first | omega | (simp at this; omega))) | (go_at_call 96; with_reducible refine (HH.out _ (by (repeat (first | (with_reducible assumption) | (with_reducible exact Below.refl _ _) | (with_reducible refine below_drewN' ?_ _) | (with_reducible refine Below.drew ?_) | ((with_reducible refine Below.alloc ?_ ?_ _); rotate_left; focus (first | (simp; done) | (simp; omega) | omega)) | ((with_reducible refine Below.setCell ?_ ?_ _); rotate_left; focus (first | (simp; done) | (simp; omega) | omega)))))).mono ?_; rintro e2 w2 ⟨rfl, rfl⟩)
    first | go_ret | go_returns
    exact ⟨by simp, by (repeat (first | (with_reducible assumption) | (with_reducible exact Below.refl _ _) | (with_reducible refine below_drewN' ?_ _) | (with_reducible refine Below.drew ?_) | ((with_reducible refine Below.alloc ?_ ?_ _); rotate_left; focus (first | (simp; done) | (simp; omega) | omega)) | ((with_reducible refine Below.setCell ?_ ?_ _); rotate_left; focus (first | (simp; done) | (simp; omega) | omega))))⟩
set_option maxRecDepth 20000 in
set_option maxHeartbeats 4000000 in
theorem press_pixel_any (h' w' : Int) (p t q : Nat) (d l R C : Int) (A : Option Addr) (n cp : Nat) (xs : List Int) (y x : Nat) (w : World) (B : Nat) (hr : RI w B A n xs) (hB : B ≤ w.heap.size) (hn : (n : Int) = R * C) (hn2 : n ≤ 40000) (hR : 1 ≤ R ∧ R ≤ 40000) (hC : 1 ≤ C ∧ C ≤ 40000)
    (hp : 1 ≤ p ∧ p ≤ 12) (ht : 1 ≤ t ∧ t ≤ 12) (hq : q ≤ 16) (hy : y ≤ 400) (hx : x ≤ 400) :
    Calls Try.prog 69 #[.agg #[.int .i64 h', .int .i64 w', .int .i64 p, .int .i64 t, .int .i64 q, .int .i64 0, .int .i64 d, .int .i64 l, .int .i64 R, .int .i64 C, .slice A n cp], .int .i64 y, .int .i64 x] w fun e w'' =>
      e = .returned (.int .i64 (pixV R C xs p t q d l y x)) ∧ Below w.heap.size w w'' := by
  have HD := Lib.hid (fun (w2 : World) (hb : Below w.heap.size w w2) => dark_any h' w' p t q 0 d l R C (((y / t : Nat) : Int) - (q : Int)) (((x / p : Nat) : Int) - (q : Int)) A n cp xs w2 w.heap.size ((hr.more hB).below hb) hb.size hn hn2 hR hC)
  have hpn : 0 < p := hp.1
  have q1 : ((y : Int).tdiv (t : Int)) = ((y / t : Nat) : Int) := by rw [Int.tdiv_eq_ediv_of_nonneg (by omega)]; simp
  have q2 : ((x : Int).tdiv (p : Int)) = ((x / p : Nat) : Int) := by rw [Int.tdiv_eq_ediv_of_nonneg (by omega)]; simp
  have q3 : ((x : Int).tmod (p : Int)) = ((x % p : Nat) : Int) := by rw [Int.tmod_eq_emod_of_nonneg (by omega)]; simp
  have q4 : ((y : Int) / (t : Int)) = ((y / t : Nat) : Int) := by simp
  have q5 : ((x : Int) / (p : Int)) = ((x / p : Nat) : Int) := by simp
  have q6 : ((x : Int) % (p : Int)) = ((x % p : Nat) : Int) := by simp
  have q7 : x % p < p := Nat.mod_lt _ hpn
  have q8 : y / t ≤ 400 := Nat.le_trans (Nat.div_le_self _ _) hy
  have q9 : x / p ≤ 400 := Nat.le_trans (Nat.div_le_self _ _) hx
  have tz : ¬ ((t : Int) = 0) := by omega
  have pz : ¬ ((p : Int) = 0) := by omega
  have tn : ¬ (t = 0) := by omega
  have pn : ¬ (p = 0) := by omega
  have HV := Lib.hid (show pixV R C xs p t q d l y x = if dkB R C xs (((y / t : Nat) : Int) - (q : Int)) (((x / p : Nat) : Int) - (q : Int)) then d else l from rfl)
  generalize y / t = Y at *
  generalize x / p = X at *
  generalize x % p = K at *
  have k1 : ¬ ((p : Int) ≤ (K : Int)) := by omega
  have k2 : ¬ ((K : Int) < 0) := by omega
  have k4 : ¬ (p ≤ K) := by omega
  have k3 : (K : Int) < (p : Int) := by omega
  have wY : IntKind.i64.wrap (Y : Int) = (Y : Int) := i64_inH (by omega)
  have wX : IntKind.i64.wrap (X : Int) = (X : Int) := i64_inH (by omega)
  have wK : IntKind.i64.wrap (K : Int) = (K : Int) := i64_inH (by omega)
  have v1 : IntKind.i64.wrap ((Y : Int) - (q : Int)) = (Y : Int) - (q : Int) := i64_inH (by omega)
  have v2 : IntKind.i64.wrap ((X : Int) - (q : Int)) = (X : Int) - (q : Int) := i64_inH (by omega)
  clear hr hn
  rw [HV.out]
  generalize dkB R C xs ((Y : Int) - (q : Int)) ((X : Int) - (q : Int)) = DV at *
  cases DV
  all_goals
    go_enter Try.func69, Try.ntmps69
    go_wp2_with fail
    go_quiet (fail)
    go_wp2_with (go_at_call 94; with_reducible refine (HD.out _ ?_).mono ?_; (focus (repeat (first | (with_reducible assumption) | (with_reducible exact Below.refl _ _) | (with_reducible refine below_drewN' ?_ _) | (with_reducible refine Below.drew ?_) | ((with_reducible refine Below.alloc ?_ ?_ _); rotate_left; focus (first | (simp; done) | (simp; omega) | omega)) | ((with_reducible refine Below.setCell ?_ ?_ _); rotate_left; focus (first | (simp; done) | (simp; omega) | omega))))); rintro e1 w1 ⟨rfl, hb1⟩; obtain ⟨hc1, hf1⟩ := bcell hb1; have hB1 : Below w.heap.size w w1 := (below_then (by first | (go_grown; done) | (repeat (first | (with_reducible assumption) | (with_reducible exact Below.refl _ _) | (with_reducible refine below_drewN' ?_ _) | (with_reducible refine Below.drew ?_) | ((with_reducible refine Below.alloc ?_ ?_ _); rotate_left; focus (first | (simp; done) | (simp; omega) | omega)) | ((with_reducible refine Below.setCell ?_ ?_ _); rotate_left; focus (first | (simp; done) | (simp; omega) | omega))))) (by first | omega | (simp; done) | (simp; omega)) hb1); have hz1a : w.heap.size < w1.heap.size := (by have := hb1.size; first | omega | (simp at this; omega)))
    first | go_ret | go_returns
    exact ⟨by simp, by (repeat (first | (with_reducible assumption) | (with_reducible exact Below.refl _ _) | (with_reducible refine below_drewN' ?_ _) | (with_reducible refine Below.drew ?_) | ((with_reducible refine Below.alloc ?_ ?_ _); rotate_left; focus (first | (simp; done) | (simp; omega) | omega)) | ((with_reducible refine Below.setCell ?_ ?_ _); rotate_left; focus (first | (simp; done) | (simp; omega) | omega))))⟩
set_option maxRecDepth 20000 in
set_option maxHeartbeats 4000000 in
theorem l21Pixel_any (p t q : Nat) (d l R C : Int) (A : Option Addr) (n cp : Nat) (xs : List Int) (y x : Nat) (w : World) (B : Nat) (hr : RI w B A n xs) (hB : B ≤ w.heap.size) (hn : (n : Int) = R * C) (hn2 : n ≤ 40000) (hR : 1 ≤ R ∧ R ≤ 40000) (hC : 1 ≤ C ∧ C ≤ 40000)
    (hp : 1 ≤ p ∧ p ≤ 12) (ht : 1 ≤ t ∧ t ≤ 12) (hq : q ≤ 16) (hy : y ≤ 400) (hx : x ≤ 400) :
    Calls Try.prog 74 #[.agg #[.int .i64 R, .int .i64 C, .slice A n cp], .agg #[.int .i64 p, .int .i64 t, .int .i64 q, .int .i64 0, .int .i64 d, .int .i64 l], .int .i64 y, .int .i64 x] w fun e w'' =>
      e = .returned (.bool (dkB R C xs (((y / t : Nat) : Int) - (q : Int)) (((x / p : Nat) : Int) - (q : Int)))) ∧ Below w.heap.size w w'' := by
  have HD := Lib.hid (fun (w2 : World) (hb : Below w.heap.size w w2) => l21Dark_any R C (((y / t : Nat) : Int) - (q : Int)) (((x / p : Nat) : Int) - (q : Int)) A n cp xs w2 w.heap.size ((hr.more hB).below hb) hb.size hn hn2 hR hC)
  have HD1 := Lib.hid (fun (w2 : World) (hb : Below w.heap.size w w2) => l21Dark_any R C (((y / t : Nat) : Int) - (q : Int)) (((x / p : Nat) : Int) - (q : Int) + 1) A n cp xs w2 w.heap.size ((hr.more hB).below hb) hb.size hn hn2 hR hC)
  have hpn : 0 < p := hp.1
  have q1 : ((y : Int).tdiv (t : Int)) = ((y / t : Nat) : Int) := by rw [Int.tdiv_eq_ediv_of_nonneg (by omega)]; simp
  have q2 : ((x : Int).tdiv (p : Int)) = ((x / p : Nat) : Int) := by rw [Int.tdiv_eq_ediv_of_nonneg (by omega)]; simp
  have q3 : ((x : Int).tmod (p : Int)) = ((x % p : Nat) : Int) := by rw [Int.tmod_eq_emod_of_nonneg (by omega)]; simp
  have q4 : ((y : Int) / (t : Int)) = ((y / t : Nat) : Int) := by simp
  have q5 : ((x : Int) / (p : Int)) = ((x / p : Nat) : Int) := by simp
  have q6 : ((x : Int) % (p : Int)) = ((x % p : Nat) : Int) := by simp
  have q7 : x % p < p := Nat.mod_lt _ hpn
  have q8 : y / t ≤ 400 := Nat.le_trans (Nat.div_le_self _ _) hy
  have q9 : x / p ≤ 400 := Nat.le_trans (Nat.div_le_self _ _) hx
  have tz : ¬ ((t : Int) = 0) := by omega
  have pz : ¬ ((p : Int) = 0) := by omega
  have tn : ¬ (t = 0) := by omega
  have pn : ¬ (p = 0) := by omega
  have HV := Lib.hid (show pixV R C xs p t q d l y x = if dkB R C xs (((y / t : Nat) : Int) - (q : Int)) (((x / p : Nat) : Int) - (q : Int)) then d else l from rfl)
  generalize y / t = Y at *
  generalize x / p = X at *
  generalize x % p = K at *
  have k1 : ¬ ((p : Int) ≤ (K : Int)) := by omega
  have k2 : ¬ ((K : Int) < 0) := by omega
  have k4 : ¬ (p ≤ K) := by omega
  have k3 : (K : Int) < (p : Int) := by omega
  have wY : IntKind.i64.wrap (Y : Int) = (Y : Int) := i64_inH (by omega)
  have wX : IntKind.i64.wrap (X : Int) = (X : Int) := i64_inH (by omega)
  have wK : IntKind.i64.wrap (K : Int) = (K : Int) := i64_inH (by omega)
  have v1 : IntKind.i64.wrap ((Y : Int) - (q : Int)) = (Y : Int) - (q : Int) := i64_inH (by omega)
  have v2 : IntKind.i64.wrap ((X : Int) - (q : Int)) = (X : Int) - (q : Int) := i64_inH (by omega)
  clear hr hn
  generalize dkB R C xs ((Y : Int) - (q : Int)) ((X : Int) - (q : Int)) = DV at *
  generalize dkB R C xs ((Y : Int) - (q : Int)) ((X : Int) - (q : Int) + 1) = DW at *
  cases DV
  · go_enter Try.func74, Try.ntmps74
    go_wp2_with fail
    go_quiet (fail)
    go_wp2_with (go_at_call 98; with_reducible refine (HD.out _ ?_).mono ?_; (focus (repeat (first | (with_reducible assumption) | (with_reducible exact Below.refl _ _) | (with_reducible refine below_drewN' ?_ _) | (with_reducible refine Below.drew ?_) | ((with_reducible refine Below.alloc ?_ ?_ _); rotate_left; focus (first | (simp; done) | (simp; omega) | omega)) | ((with_reducible refine Below.setCell ?_ ?_ _); rotate_left; focus (first | (simp; done) | (simp; omega) | omega))))); rintro e1 w1 ⟨rfl, hb1⟩; obtain ⟨hc1, hf1⟩ := bcell hb1; have hB1 : Below w.heap.size w w1 := (below_then (by first | (go_grown; done) | (repeat (first | (with_reducible assumption) | (with_reducible exact Below.refl _ _) | (with_reducible refine below_drewN' ?_ _) | (with_reducible refine Below.drew ?_) | ((with_reducible refine Below.alloc ?_ ?_ _); rotate_left; focus (first | (simp; done) | (simp; omega) | omega)) | ((with_reducible refine Below.setCell ?_ ?_ _); rotate_left; focus (first | (simp; done) | (simp; omega) | omega))))) (by first | omega | (simp; done) | (simp; omega)) hb1); have hz1a : w.heap.size < w1.heap.size := (by have := hb1.size; first | omega | (simp at this; omega)); have hz1b : w.heap.size + 1 < w1.heap.size := (by have := hb1.size; first | omega | (simp at this; omega)))
    first | go_ret | go_returns
    exact ⟨by simp, by (repeat (first | (with_reducible assumption) | (with_reducible exact Below.refl _ _) | (with_reducible refine below_drewN' ?_ _) | (with_reducible refine Below.drew ?_) | ((with_reducible refine Below.alloc ?_ ?_ _); rotate_left; focus (first | (simp; done) | (simp; omega) | omega)) | ((with_reducible refine Below.setCell ?_ ?_ _); rotate_left; focus (first | (simp; done) | (simp; omega) | omega))))⟩
  · cases DW
    all_goals
      go_enter Try.func74, Try.ntmps74
      go_wp2_with fail
      go_quiet (fail)
      go_wp2_with first | (go_at_call 98; with_reducible refine (HD.out _ ?_).mono ?_; (focus (repeat (first | (with_reducible assumption) | (with_reducible exact Below.refl _ _) | (with_reducible refine below_drewN' ?_ _) | (with_reducible refine Below.drew ?_) | ((with_reducible refine Below.alloc ?_ ?_ _); rotate_left; focus (first | (simp; done) | (simp; omega) | omega)) | ((with_reducible refine Below.setCell ?_ ?_ _); rotate_left; focus (first | (simp; done) | (simp; omega) | omega))))); rintro e1 w1 ⟨rfl, hb1⟩; obtain ⟨hc1, hf1⟩ := bcell hb1; have hB1 : Below w.heap.size w w1 := (below_then (by first | (go_grown; done) | (repeat (first | (with_reducible assumption) | (with_reducible exact Below.refl _ _) | (with_reducible refine below_drewN' ?_ _) | (with_reducible refine Below.drew ?_) | ((with_reducible refine Below.alloc ?_ ?_ _); rotate_left; focus (first | (simp; done) | (simp; omega) | omega)) | ((with_reducible refine Below.setCell ?_ ?_ _); rotate_left; focus (first | (simp; done) | (simp; omega) | omega))))) (by first | omega | (simp; done) | (simp; omega)) hb1); have hz1a : w.heap.size < w1.heap.size := (by have := hb1.size; first | omega | (simp at this; omega)); have hz1b : w.heap.size + 1 < w1.heap.size := (by have := hb1.size; first | omega | (simp at this; omega))) | (go_at_call 98; with_reducible refine (HD1.out _ ?_).mono ?_; (focus (repeat (first | (with_reducible assumption) | (with_reducible exact Below.refl _ _) | (with_reducible refine below_drewN' ?_ _) | (with_reducible refine Below.drew ?_) | ((with_reducible refine Below.alloc ?_ ?_ _); rotate_left; focus (first | (simp; done) | (simp; omega) | omega)) | ((with_reducible refine Below.setCell ?_ ?_ _); rotate_left; focus (first | (simp; done) | (simp; omega) | omega))))); rintro e2 w2 ⟨rfl, hb2⟩; obtain ⟨hc2, hf2⟩ := bcell hb2; have hB2 : Below w.heap.size w w2 := (below_then (by first | (go_grown; done) | (repeat (first | (with_reducible assumption) | (with_reducible exact Below.refl _ _) | (with_reducible refine below_drewN' ?_ _) | (with_reducible refine Below.drew ?_) | ((with_reducible refine Below.alloc ?_ ?_ _); rotate_left; focus (first | (simp; done) | (simp; omega) | omega)) | ((with_reducible refine Below.setCell ?_ ?_ _); rotate_left; focus (first | (simp; done) | (simp; omega) | omega))))) (by first | omega | (simp; done) | (simp; omega)) hb2); have hz2a : w.heap.size < w2.heap.size := (by have := hb2.size; first | omega | (simp at this; omega)); have hz2b : w.heap.size + 1 < w2.heap.size := (by have := hb2.size; first | omega | (simp at this; omega)))
      all_goals (first | go_ret | go_returns)
      all_goals (exact ⟨by simp, by (repeat (first | (with_reducible assumption) | (with_reducible exact Below.refl _ _) | (with_reducible refine below_drewN' ?_ _) | (with_reducible refine Below.drew ?_) | ((with_reducible refine Below.alloc ?_ ?_ _); rotate_left; focus (first | (simp; done) | (simp; omega) | omega)) | ((with_reducible refine Below.setCell ?_ ?_ _); rotate_left; focus (first | (simp; done) | (simp; omega) | omega))))⟩)

set_option maxHeartbeats 4000000 in
theorem PrintGrid_a (R C : Int) (A : Option Addr) (n cp : Nat) (xs : List Int) (p t q d l : Int) (w : World) (B : Nat) (hr : RI w B A n xs) (hB : B ≤ w.heap.size) (hn : n ≤ 1000000000000000) (h1 : gridB R C xs = false) :
    Calls Try.prog 29 #[.agg #[.int .i64 R, .int .i64 C, .slice A n cp], .agg #[.int .i64 p, .int .i64 t, .int .i64 q, .int .i64 0, .int .i64 d, .int .i64 l]] w fun e w' => ∃ v, e = .returned (.tuple #[.agg #[.int .i64 0, .int .i64 0, v], .int .i64 1]) ∧ Own w' w.heap.size v ([]) ∧ Below w.heap.size w w' := by
  have HA := Lib.hid (fun (w' : World) (hb : Below w.heap.size w w') => IsGrid_any R C A n cp xs w' w.heap.size ((hr.more hB).below hb) hb.size hn)
  have HPR := Lib.hid (fun w => IsPrint_any p t q 0 d l w)
  have HK := Lib.hid (fun (w' : World) (hb : Below w.heap.size w w') => known_any R C A n cp xs w' w.heap.size ((hr.more hB).below hb) hb.size hn)
  have HS := Lib.hid (fun w => PrintSize_any R C p t q 0 d l w)
  rw [h1] at HA
  clear hr h1
  clear HPR HK HS
  have HZ0 : Hid ((((w.alloc (.cells #[.int .i64 R, .int .i64 C, .slice A n cp] 41)).alloc (.cells #[.int .i64 p, .int .i64 t, .int .i64 q, .int .i64 0, .int .i64 d, .int .i64 l] 53)).alloc (.cells #[.int .i64 0, .int .i64 0, .slice none 0 0] 32)).heap[w.heap.size + 1 + 1]? = some (.cells #[.int .i64 0, .int .i64 0, .slice none 0 0] 32 (0, 0))) := Lib.hid (heap_alloc_at (by simp))
  go_enter Try.func29, Try.ntmps29
  go_upto_region 2 with (first | (go_at_call 63; go_call (HA.out _ (by (repeat (first | (with_reducible assumption) | (with_reducible exact Below.refl _ _) | (with_reducible refine below_drewN' ?_ _) | (with_reducible refine Below.drew ?_) | ((with_reducible refine Below.alloc ?_ ?_ _); rotate_left; focus (first | (simp; done) | (simp; omega) | omega)) | ((with_reducible refine Below.setCell ?_ ?_ _); rotate_left; focus (first | (simp; done) | (simp; omega) | omega)))))) as e1 w1 ⟨rfl, hb1⟩; obtain ⟨hc1, hf1⟩ := bcell hb1; have hB1 : Below w.heap.size w w1 := (below_then (by first | (go_grown; done) | (repeat (first | (with_reducible assumption) | (with_reducible exact Below.refl _ _) | (with_reducible refine below_drewN' ?_ _) | (with_reducible refine Below.drew ?_) | ((with_reducible refine Below.alloc ?_ ?_ _); rotate_left; focus (first | (simp; done) | (simp; omega) | omega)) | ((with_reducible refine Below.setCell ?_ ?_ _); rotate_left; focus (first | (simp; done) | (simp; omega) | omega))))) (by first | omega | (simp; done) | (simp; omega)) hb1); have hz1a : w.heap.size < w1.heap.size := (by have := hb1.size; first | omega | (simp at this; omega)); have hz1b : w.heap.size + 1 < w1.heap.size := (by have := hb1.size; first | omega | (simp at this; omega)); have hz1c : w.heap.size + 1 + 1 < w1.heap.size := (by have := hb1.size; first | omega | (simp at this; omega))))
  have HZ1 := Lib.hid (blk_below HZ0.out hb1 (by first | (simp; done) | omega | (simp; omega)))
  have hzw : w.heap.size + 1 + 1 < w1.heap.size := by omega
  have HBF := Lib.hid hB1
  clear hc1 hf1 hb1 hB1
  obtain ⟨z0, z1, z2, zf⟩ := blk3 HZ1.out
  obtain ⟨s0, s1, s2⟩ := res3 HZ1.out (.int .i64 0) (.int .i64 0) (.slice none 0 0)
  go_wp2_with fail
  (try simp only [Exit.inBlock, Exit.then]); refine bodyPost_ret (by simp [results, Try.results29, go_sem, s0, s1, s2]; try rfl) rfl ?_
  exact ⟨_, rfl, Own.nil, HBF.out.trans (by (repeat (first | (with_reducible assumption) | (with_reducible exact Below.refl _ _) | (with_reducible refine below_drewN' ?_ _) | (with_reducible refine Below.drew ?_) | ((with_reducible refine Below.alloc ?_ ?_ _); rotate_left; focus (first | (simp; done) | (simp; omega) | omega)) | ((with_reducible refine Below.setCell ?_ ?_ _); rotate_left; focus (first | (simp; done) | (simp; omega) | omega)))))⟩
set_option maxHeartbeats 4000000 in
theorem PrintGrid_b (R C : Int) (A : Option Addr) (n cp : Nat) (xs : List Int) (p t q d l : Int) (w : World) (B : Nat) (hr : RI w B A n xs) (hB : B ≤ w.heap.size) (hn : n ≤ 1000000000000000) (h1 : gridB R C xs = true) (h2 : prnB p t q 0 d l = false) :
    Calls Try.prog 29 #[.agg #[.int .i64 R, .int .i64 C, .slice A n cp], .agg #[.int .i64 p, .int .i64 t, .int .i64 q, .int .i64 0, .int .i64 d, .int .i64 l]] w fun e w' => ∃ v, e = .returned (.tuple #[.agg #[.int .i64 0, .int .i64 0, v], .int .i64 1]) ∧ Own w' w.heap.size v ([]) ∧ Below w.heap.size w w' := by
  have HA := Lib.hid (fun (w' : World) (hb : Below w.heap.size w w') => IsGrid_any R C A n cp xs w' w.heap.size ((hr.more hB).below hb) hb.size hn)
  have HPR := Lib.hid (fun w => IsPrint_any p t q 0 d l w)
  have HK := Lib.hid (fun (w' : World) (hb : Below w.heap.size w w') => known_any R C A n cp xs w' w.heap.size ((hr.more hB).below hb) hb.size hn)
  have HS := Lib.hid (fun w => PrintSize_any R C p t q 0 d l w)
  rw [h1] at HA
  rw [h2] at HPR
  clear hr h1 h2
  clear HK HS
  have HZ0 : Hid ((((w.alloc (.cells #[.int .i64 R, .int .i64 C, .slice A n cp] 41)).alloc (.cells #[.int .i64 p, .int .i64 t, .int .i64 q, .int .i64 0, .int .i64 d, .int .i64 l] 53)).alloc (.cells #[.int .i64 0, .int .i64 0, .slice none 0 0] 32)).heap[w.heap.size + 1 + 1]? = some (.cells #[.int .i64 0, .int .i64 0, .slice none 0 0] 32 (0, 0))) := Lib.hid (heap_alloc_at (by simp))
  go_enter Try.func29, Try.ntmps29
  go_upto_region 2 with (first | (go_at_call 63; go_call (HA.out _ (by (repeat (first | (with_reducible assumption) | (with_reducible exact Below.refl _ _) | (with_reducible refine below_drewN' ?_ _) | (with_reducible refine Below.drew ?_) | ((with_reducible refine Below.alloc ?_ ?_ _); rotate_left; focus (first | (simp; done) | (simp; omega) | omega)) | ((with_reducible refine Below.setCell ?_ ?_ _); rotate_left; focus (first | (simp; done) | (simp; omega) | omega)))))) as e1 w1 ⟨rfl, hb1⟩; obtain ⟨hc1, hf1⟩ := bcell hb1; have hB1 : Below w.heap.size w w1 := (below_then (by first | (go_grown; done) | (repeat (first | (with_reducible assumption) | (with_reducible exact Below.refl _ _) | (with_reducible refine below_drewN' ?_ _) | (with_reducible refine Below.drew ?_) | ((with_reducible refine Below.alloc ?_ ?_ _); rotate_left; focus (first | (simp; done) | (simp; omega) | omega)) | ((with_reducible refine Below.setCell ?_ ?_ _); rotate_left; focus (first | (simp; done) | (simp; omega) | omega))))) (by first | omega | (simp; done) | (simp; omega)) hb1); have hz1a : w.heap.size < w1.heap.size := (by have := hb1.size; first | omega | (simp at this; omega)); have hz1b : w.heap.size + 1 < w1.heap.size := (by have := hb1.size; first | omega | (simp at this; omega)); have hz1c : w.heap.size + 1 + 1 < w1.heap.size := (by have := hb1.size; first | omega | (simp at this; omega))) | (go_at_call 64; go_call (HPR.out _) as e2 w2 ⟨rfl, hb2⟩; obtain ⟨hc2, hf2⟩ := bcell hb2; have hB2 : Below w.heap.size w w2 := (below_then (by first | (go_grown; done) | (repeat (first | (with_reducible assumption) | (with_reducible exact Below.refl _ _) | (with_reducible refine below_drewN' ?_ _) | (with_reducible refine Below.drew ?_) | ((with_reducible refine Below.alloc ?_ ?_ _); rotate_left; focus (first | (simp; done) | (simp; omega) | omega)) | ((with_reducible refine Below.setCell ?_ ?_ _); rotate_left; focus (first | (simp; done) | (simp; omega) | omega))))) (by first | omega | (simp; done) | (simp; omega)) hb2); have hz2a : w.heap.size < w2.heap.size := (by have := hb2.size; first | omega | (simp at this; omega)); have hz2b : w.heap.size + 1 < w2.heap.size := (by have := hb2.size; first | omega | (simp at this; omega)); have hz2c : w.heap.size + 1 + 1 < w2.heap.size := (by have := hb2.size; first | omega | (simp at this; omega))))
  have HZ1 := Lib.hid (blk_below (blk_below HZ0.out hb1 (by first | (simp; done) | omega | (simp; omega))) hb2 (by first | (simp; done) | omega | (simp; omega)))
  have hzw : w.heap.size + 1 + 1 < w2.heap.size := by omega
  have HBF := Lib.hid hB2
  clear hc2 hf2 hb2 hB2 hc1 hf1 hb1 hB1
  obtain ⟨z0, z1, z2, zf⟩ := blk3 HZ1.out
  obtain ⟨s0, s1, s2⟩ := res3 HZ1.out (.int .i64 0) (.int .i64 0) (.slice none 0 0)
  go_wp2_with fail
  (try simp only [Exit.inBlock, Exit.then]); refine bodyPost_ret (by simp [results, Try.results29, go_sem, s0, s1, s2]; try rfl) rfl ?_
  exact ⟨_, rfl, Own.nil, HBF.out.trans (by (repeat (first | (with_reducible assumption) | (with_reducible exact Below.refl _ _) | (with_reducible refine below_drewN' ?_ _) | (with_reducible refine Below.drew ?_) | ((with_reducible refine Below.alloc ?_ ?_ _); rotate_left; focus (first | (simp; done) | (simp; omega) | omega)) | ((with_reducible refine Below.setCell ?_ ?_ _); rotate_left; focus (first | (simp; done) | (simp; omega) | omega)))))⟩
set_option maxHeartbeats 4000000 in
theorem PrintGrid_c (R C : Int) (A : Option Addr) (n cp : Nat) (xs : List Int) (p t q d l : Int) (w : World) (B : Nat) (hr : RI w B A n xs) (hB : B ≤ w.heap.size) (hn : n ≤ 1000000000000000) (h1 : gridB R C xs = true) (h2 : prnB p t q 0 d l = true) (h3 : posB xs = false) :
    Calls Try.prog 29 #[.agg #[.int .i64 R, .int .i64 C, .slice A n cp], .agg #[.int .i64 p, .int .i64 t, .int .i64 q, .int .i64 0, .int .i64 d, .int .i64 l]] w fun e w' => ∃ v, e = .returned (.tuple #[.agg #[.int .i64 0, .int .i64 0, v], .int .i64 5]) ∧ Own w' w.heap.size v ([]) ∧ Below w.heap.size w w' := by
  have HA := Lib.hid (fun (w' : World) (hb : Below w.heap.size w w') => IsGrid_any R C A n cp xs w' w.heap.size ((hr.more hB).below hb) hb.size hn)
  have HPR := Lib.hid (fun w => IsPrint_any p t q 0 d l w)
  have HK := Lib.hid (fun (w' : World) (hb : Below w.heap.size w w') => known_any R C A n cp xs w' w.heap.size ((hr.more hB).below hb) hb.size hn)
  have HS := Lib.hid (fun w => PrintSize_any R C p t q 0 d l w)
  rw [h1] at HA
  rw [h2] at HPR
  rw [h3] at HK
  clear hr h1 h2 h3
  clear HS
  have HZ0 : Hid ((((w.alloc (.cells #[.int .i64 R, .int .i64 C, .slice A n cp] 41)).alloc (.cells #[.int .i64 p, .int .i64 t, .int .i64 q, .int .i64 0, .int .i64 d, .int .i64 l] 53)).alloc (.cells #[.int .i64 0, .int .i64 0, .slice none 0 0] 32)).heap[w.heap.size + 1 + 1]? = some (.cells #[.int .i64 0, .int .i64 0, .slice none 0 0] 32 (0, 0))) := Lib.hid (heap_alloc_at (by simp))
  go_enter Try.func29, Try.ntmps29
  go_upto_region 4 with (first | (go_at_call 63; go_call (HA.out _ (by (repeat (first | (with_reducible assumption) | (with_reducible exact Below.refl _ _) | (with_reducible refine below_drewN' ?_ _) | (with_reducible refine Below.drew ?_) | ((with_reducible refine Below.alloc ?_ ?_ _); rotate_left; focus (first | (simp; done) | (simp; omega) | omega)) | ((with_reducible refine Below.setCell ?_ ?_ _); rotate_left; focus (first | (simp; done) | (simp; omega) | omega)))))) as e1 w1 ⟨rfl, hb1⟩; obtain ⟨hc1, hf1⟩ := bcell hb1; have hB1 : Below w.heap.size w w1 := (below_then (by first | (go_grown; done) | (repeat (first | (with_reducible assumption) | (with_reducible exact Below.refl _ _) | (with_reducible refine below_drewN' ?_ _) | (with_reducible refine Below.drew ?_) | ((with_reducible refine Below.alloc ?_ ?_ _); rotate_left; focus (first | (simp; done) | (simp; omega) | omega)) | ((with_reducible refine Below.setCell ?_ ?_ _); rotate_left; focus (first | (simp; done) | (simp; omega) | omega))))) (by first | omega | (simp; done) | (simp; omega)) hb1); have hz1a : w.heap.size < w1.heap.size := (by have := hb1.size; first | omega | (simp at this; omega)); have hz1b : w.heap.size + 1 < w1.heap.size := (by have := hb1.size; first | omega | (simp at this; omega)); have hz1c : w.heap.size + 1 + 1 < w1.heap.size := (by have := hb1.size; first | omega | (simp at this; omega))) | (go_at_call 64; go_call (HPR.out _) as e2 w2 ⟨rfl, hb2⟩; obtain ⟨hc2, hf2⟩ := bcell hb2; have hB2 : Below w.heap.size w w2 := (below_then (by first | (go_grown; done) | (repeat (first | (with_reducible assumption) | (with_reducible exact Below.refl _ _) | (with_reducible refine below_drewN' ?_ _) | (with_reducible refine Below.drew ?_) | ((with_reducible refine Below.alloc ?_ ?_ _); rotate_left; focus (first | (simp; done) | (simp; omega) | omega)) | ((with_reducible refine Below.setCell ?_ ?_ _); rotate_left; focus (first | (simp; done) | (simp; omega) | omega))))) (by first | omega | (simp; done) | (simp; omega)) hb2); have hz2a : w.heap.size < w2.heap.size := (by have := hb2.size; first | omega | (simp at this; omega)); have hz2b : w.heap.size + 1 < w2.heap.size := (by have := hb2.size; first | omega | (simp at this; omega)); have hz2c : w.heap.size + 1 + 1 < w2.heap.size := (by have := hb2.size; first | omega | (simp at this; omega))) | (go_at_call 65; go_call (HK.out _ (by (repeat (first | (with_reducible assumption) | (with_reducible exact Below.refl _ _) | (with_reducible refine below_drewN' ?_ _) | (with_reducible refine Below.drew ?_) | ((with_reducible refine Below.alloc ?_ ?_ _); rotate_left; focus (first | (simp; done) | (simp; omega) | omega)) | ((with_reducible refine Below.setCell ?_ ?_ _); rotate_left; focus (first | (simp; done) | (simp; omega) | omega)))))) as e3 w3 ⟨rfl, hb3⟩; obtain ⟨hc3, hf3⟩ := bcell hb3; have hB3 : Below w.heap.size w w3 := (below_then (by first | (go_grown; done) | (repeat (first | (with_reducible assumption) | (with_reducible exact Below.refl _ _) | (with_reducible refine below_drewN' ?_ _) | (with_reducible refine Below.drew ?_) | ((with_reducible refine Below.alloc ?_ ?_ _); rotate_left; focus (first | (simp; done) | (simp; omega) | omega)) | ((with_reducible refine Below.setCell ?_ ?_ _); rotate_left; focus (first | (simp; done) | (simp; omega) | omega))))) (by first | omega | (simp; done) | (simp; omega)) hb3); have hz3a : w.heap.size < w3.heap.size := (by have := hb3.size; first | omega | (simp at this; omega)); have hz3b : w.heap.size + 1 < w3.heap.size := (by have := hb3.size; first | omega | (simp at this; omega)); have hz3c : w.heap.size + 1 + 1 < w3.heap.size := (by have := hb3.size; first | omega | (simp at this; omega))))
  have HZ1 := Lib.hid (blk_below (blk_below (blk_below HZ0.out hb1 (by first | (simp; done) | omega | (simp; omega))) hb2 (by first | (simp; done) | omega | (simp; omega))) hb3 (by first | (simp; done) | omega | (simp; omega)))
  have hzw : w.heap.size + 1 + 1 < w3.heap.size := by omega
  have HBF := Lib.hid hB3
  clear hc3 hf3 hb3 hB3 hc2 hf2 hb2 hB2 hc1 hf1 hb1 hB1
  obtain ⟨z0, z1, z2, zf⟩ := blk3 HZ1.out
  obtain ⟨s0, s1, s2⟩ := res3 HZ1.out (.int .i64 0) (.int .i64 0) (.slice none 0 0)
  go_wp2_with fail
  (try simp only [Exit.inBlock, Exit.then]); refine bodyPost_ret (by simp [results, Try.results29, go_sem, s0, s1, s2]; try rfl) rfl ?_
  exact ⟨_, rfl, Own.nil, HBF.out.trans (by (repeat (first | (with_reducible assumption) | (with_reducible exact Below.refl _ _) | (with_reducible refine below_drewN' ?_ _) | (with_reducible refine Below.drew ?_) | ((with_reducible refine Below.alloc ?_ ?_ _); rotate_left; focus (first | (simp; done) | (simp; omega) | omega)) | ((with_reducible refine Below.setCell ?_ ?_ _); rotate_left; focus (first | (simp; done) | (simp; omega) | omega)))))⟩
set_option maxHeartbeats 4000000 in
theorem PrintGrid_d (R C : Int) (A : Option Addr) (n cp : Nat) (xs : List Int) (p t q d l : Int) (w : World) (B : Nat) (hr : RI w B A n xs) (hB : B ≤ w.heap.size) (hn : n ≤ 1000000000000000) (h1 : gridB R C xs = true) (h2 : prnB p t q 0 d l = true) (h3 : posB xs = true) (h4 : psK R C p t q 0 d l ≠ 0) :
    Calls Try.prog 29 #[.agg #[.int .i64 R, .int .i64 C, .slice A n cp], .agg #[.int .i64 p, .int .i64 t, .int .i64 q, .int .i64 0, .int .i64 d, .int .i64 l]] w fun e w' => ∃ v, e = .returned (.tuple #[.agg #[.int .i64 0, .int .i64 0, v], .int .i64 (psK R C p t q 0 d l)]) ∧ Own w' w.heap.size v ([]) ∧ Below w.heap.size w w' := by
  have HA := Lib.hid (fun (w' : World) (hb : Below w.heap.size w w') => IsGrid_any R C A n cp xs w' w.heap.size ((hr.more hB).below hb) hb.size hn)
  have HPR := Lib.hid (fun w => IsPrint_any p t q 0 d l w)
  have HK := Lib.hid (fun (w' : World) (hb : Below w.heap.size w w') => known_any R C A n cp xs w' w.heap.size ((hr.more hB).below hb) hb.size hn)
  have HS := Lib.hid (fun w => PrintSize_any R C p t q 0 d l w)
  rw [h1] at HA
  rw [h2] at HPR
  rw [h3] at HK
  have h5 : (psK R C p t q 0 d l != 0) = true := by simpa using h4
  rw [gK_no h4, gK_no h4] at HS
  generalize psK R C p t q 0 d l = K at *
  clear hr h1 h2 h3 h4
  have HZ0 : Hid ((((w.alloc (.cells #[.int .i64 R, .int .i64 C, .slice A n cp] 41)).alloc (.cells #[.int .i64 p, .int .i64 t, .int .i64 q, .int .i64 0, .int .i64 d, .int .i64 l] 53)).alloc (.cells #[.int .i64 0, .int .i64 0, .slice none 0 0] 32)).heap[w.heap.size + 1 + 1]? = some (.cells #[.int .i64 0, .int .i64 0, .slice none 0 0] 32 (0, 0))) := Lib.hid (heap_alloc_at (by simp))
  go_enter Try.func29, Try.ntmps29
  go_upto_region 7 with (first | (go_at_call 63; go_call (HA.out _ (by (repeat (first | (with_reducible assumption) | (with_reducible exact Below.refl _ _) | (with_reducible refine below_drewN' ?_ _) | (with_reducible refine Below.drew ?_) | ((with_reducible refine Below.alloc ?_ ?_ _); rotate_left; focus (first | (simp; done) | (simp; omega) | omega)) | ((with_reducible refine Below.setCell ?_ ?_ _); rotate_left; focus (first | (simp; done) | (simp; omega) | omega)))))) as e1 w1 ⟨rfl, hb1⟩; obtain ⟨hc1, hf1⟩ := bcell hb1; have hB1 : Below w.heap.size w w1 := (below_then (by first | (go_grown; done) | (repeat (first | (with_reducible assumption) | (with_reducible exact Below.refl _ _) | (with_reducible refine below_drewN' ?_ _) | (with_reducible refine Below.drew ?_) | ((with_reducible refine Below.alloc ?_ ?_ _); rotate_left; focus (first | (simp; done) | (simp; omega) | omega)) | ((with_reducible refine Below.setCell ?_ ?_ _); rotate_left; focus (first | (simp; done) | (simp; omega) | omega))))) (by first | omega | (simp; done) | (simp; omega)) hb1); have hz1a : w.heap.size < w1.heap.size := (by have := hb1.size; first | omega | (simp at this; omega)); have hz1b : w.heap.size + 1 < w1.heap.size := (by have := hb1.size; first | omega | (simp at this; omega)); have hz1c : w.heap.size + 1 + 1 < w1.heap.size := (by have := hb1.size; first | omega | (simp at this; omega))) | (go_at_call 64; go_call (HPR.out _) as e2 w2 ⟨rfl, hb2⟩; obtain ⟨hc2, hf2⟩ := bcell hb2; have hB2 : Below w.heap.size w w2 := (below_then (by first | (go_grown; done) | (repeat (first | (with_reducible assumption) | (with_reducible exact Below.refl _ _) | (with_reducible refine below_drewN' ?_ _) | (with_reducible refine Below.drew ?_) | ((with_reducible refine Below.alloc ?_ ?_ _); rotate_left; focus (first | (simp; done) | (simp; omega) | omega)) | ((with_reducible refine Below.setCell ?_ ?_ _); rotate_left; focus (first | (simp; done) | (simp; omega) | omega))))) (by first | omega | (simp; done) | (simp; omega)) hb2); have hz2a : w.heap.size < w2.heap.size := (by have := hb2.size; first | omega | (simp at this; omega)); have hz2b : w.heap.size + 1 < w2.heap.size := (by have := hb2.size; first | omega | (simp at this; omega)); have hz2c : w.heap.size + 1 + 1 < w2.heap.size := (by have := hb2.size; first | omega | (simp at this; omega))) | (go_at_call 65; go_call (HK.out _ (by (repeat (first | (with_reducible assumption) | (with_reducible exact Below.refl _ _) | (with_reducible refine below_drewN' ?_ _) | (with_reducible refine Below.drew ?_) | ((with_reducible refine Below.alloc ?_ ?_ _); rotate_left; focus (first | (simp; done) | (simp; omega) | omega)) | ((with_reducible refine Below.setCell ?_ ?_ _); rotate_left; focus (first | (simp; done) | (simp; omega) | omega)))))) as e3 w3 ⟨rfl, hb3⟩; obtain ⟨hc3, hf3⟩ := bcell hb3; have hB3 : Below w.heap.size w w3 := (below_then (by first | (go_grown; done) | (repeat (first | (with_reducible assumption) | (with_reducible exact Below.refl _ _) | (with_reducible refine below_drewN' ?_ _) | (with_reducible refine Below.drew ?_) | ((with_reducible refine Below.alloc ?_ ?_ _); rotate_left; focus (first | (simp; done) | (simp; omega) | omega)) | ((with_reducible refine Below.setCell ?_ ?_ _); rotate_left; focus (first | (simp; done) | (simp; omega) | omega))))) (by first | omega | (simp; done) | (simp; omega)) hb3); have hz3a : w.heap.size < w3.heap.size := (by have := hb3.size; first | omega | (simp at this; omega)); have hz3b : w.heap.size + 1 < w3.heap.size := (by have := hb3.size; first | omega | (simp at this; omega)); have hz3c : w.heap.size + 1 + 1 < w3.heap.size := (by have := hb3.size; first | omega | (simp at this; omega))) | (go_at_call 66; go_call (HS.out _) as e4 w4 ⟨rfl, hb4⟩; obtain ⟨hc4, hf4⟩ := bcell hb4; have hB4 : Below w.heap.size w w4 := (below_then (by first | (go_grown; done) | (repeat (first | (with_reducible assumption) | (with_reducible exact Below.refl _ _) | (with_reducible refine below_drewN' ?_ _) | (with_reducible refine Below.drew ?_) | ((with_reducible refine Below.alloc ?_ ?_ _); rotate_left; focus (first | (simp; done) | (simp; omega) | omega)) | ((with_reducible refine Below.setCell ?_ ?_ _); rotate_left; focus (first | (simp; done) | (simp; omega) | omega))))) (by first | omega | (simp; done) | (simp; omega)) hb4); have hz4a : w.heap.size < w4.heap.size := (by have := hb4.size; first | omega | (simp at this; omega)); have hz4b : w.heap.size + 1 < w4.heap.size := (by have := hb4.size; first | omega | (simp at this; omega)); have hz4c : w.heap.size + 1 + 1 < w4.heap.size := (by have := hb4.size; first | omega | (simp at this; omega))))
  have HZ1 := Lib.hid (blk_below (blk_below (blk_below (blk_below HZ0.out hb1 (by first | (simp; done) | omega | (simp; omega))) hb2 (by first | (simp; done) | omega | (simp; omega))) hb3 (by first | (simp; done) | omega | (simp; omega))) hb4 (by first | (simp; done) | omega | (simp; omega)))
  have hzw : w.heap.size + 1 + 1 < w4.heap.size := by omega
  have HBF := Lib.hid hB4
  clear hc4 hf4 hb4 hB4 hc3 hf3 hb3 hB3 hc2 hf2 hb2 hB2 hc1 hf1 hb1 hB1
  obtain ⟨z0, z1, z2, zf⟩ := blk3 HZ1.out
  obtain ⟨s0, s1, s2⟩ := res3 HZ1.out (.int .i64 0) (.int .i64 0) (.slice none 0 0)
  go_wp2_with fail
  (try simp only [Exit.inBlock, Exit.then]); refine bodyPost_ret (by simp [results, Try.results29, go_sem, s0, s1, s2]; try rfl) rfl ?_
  exact ⟨_, rfl, Own.nil, HBF.out.trans (by (repeat (first | (with_reducible assumption) | (with_reducible exact Below.refl _ _) | (with_reducible refine below_drewN' ?_ _) | (with_reducible refine Below.drew ?_) | ((with_reducible refine Below.alloc ?_ ?_ _); rotate_left; focus (first | (simp; done) | (simp; omega) | omega)) | ((with_reducible refine Below.setCell ?_ ?_ _); rotate_left; focus (first | (simp; done) | (simp; omega) | omega)))))⟩
set_option maxRecDepth 20000 in
set_option maxHeartbeats 8000000 in
theorem PrintGrid_e (R C : Int) (A : Option Addr) (n cp : Nat) (xs : List Int) (p t q d l : Int) (w : World) (B : Nat) (hr : RI w B A n xs) (hB : B ≤ w.heap.size) (hn : n ≤ 1000000000000000) (h1 : gridB R C xs = true) (h2 : prnB p t q 0 d l = true) (h3 : posB xs = true) (h4 : psK R C p t q 0 d l = 0) :
    Calls Try.prog 29 #[.agg #[.int .i64 R, .int .i64 C, .slice A n cp], .agg #[.int .i64 p, .int .i64 t, .int .i64 q, .int .i64 0, .int .i64 d, .int .i64 l]] w fun e w' => ∃ v, e = .returned (.tuple #[.agg #[.int .i64 ((R + 2 * q) * t), .int .i64 ((C + 2 * q) * p), v], .int .i64 0]) ∧ Own w' w.heap.size v (grdL ((R + 2 * q) * t).toNat ((C + 2 * q) * p).toNat (pixV R C xs p.toNat t.toNat q.toNat d l)) ∧ Below w.heap.size w w' := by
  have HA := Lib.hid (fun (w' : World) (hb : Below w.heap.size w w') => IsGrid_any R C A n cp xs w' w.heap.size ((hr.more hB).below hb) hb.size hn)
  have HPR := Lib.hid (fun w => IsPrint_any p t q 0 d l w)
  have HK := Lib.hid (fun (w' : World) (hb : Below w.heap.size w w') => known_any R C A n cp xs w' w.heap.size ((hr.more hB).below hb) hb.size hn)
  have HS := Lib.hid (fun w => PrintSize_any R C p t q 0 d l w)
  rw [h1] at HA
  rw [h2] at HPR
  rw [h3] at HK
  rw [h4] at HS
  obtain ⟨y1, y2, y3, y4, y5⟩ := gridB_true h1
  obtain ⟨x1, x2, x3, x4, x5, x6, x7⟩ := prnB_true h2
  obtain ⟨b1, b2, b3⟩ := psK_0 h4
  have u1 := prt_bd b1 x3 x2
  have u2 := prt_bd b2 x3 x1
  obtain ⟨g1, g2, g3⟩ := rszB_true b3
  have hnl : (n : Int) = R * C := by rw [← hr.len]; exact y4
  obtain ⟨p, rfl⟩ := Int.eq_ofNat_of_zero_le (show 0 ≤ p by omega)
  obtain ⟨t, rfl⟩ := Int.eq_ofNat_of_zero_le (show 0 ≤ t by omega)
  obtain ⟨q, rfl⟩ := Int.eq_ofNat_of_zero_le (show 0 ≤ q by omega)
  obtain ⟨H, hH⟩ := Int.eq_ofNat_of_zero_le (show 0 ≤ (R + 2 * (q : Int)) * t by omega)
  obtain ⟨V, hV⟩ := Int.eq_ofNat_of_zero_le (show 0 ≤ (C + 2 * (q : Int)) * p by omega)
  rw [hH, hV] at g3
  rw [hH] at g1
  rw [hV] at g2
  have hHV : H * V ≤ 40000 := by rw [← Int.natCast_mul] at g3; omega
  simp only [hH, hV, gK_0] at HS ⊢
  simp only [Int.toNat_natCast]
  have HSO := Lib.hid (fun w => sizeOf_any R C p t q 0 d l w b1 b2 x1 x2 x3)
  simp only [hH, hV] at HSO
  have HRS := Lib.hid (fun (w' : World) (hb : Below w.heap.size w w') => raster_any H V 69 #[.agg #[.int .i64 H, .int .i64 V, .int .i64 p, .int .i64 t, .int .i64 q, .int .i64 0, .int .i64 d, .int .i64 l, .int .i64 R, .int .i64 C, .slice A n cp]] #[] (pixV R C xs p t q d l) w'
    (fun i j hi hj w'' hb'' => by
      have := press_pixel_any H V p t q d l R C A n cp xs i j w'' w.heap.size ((hr.more hB).below (hb.trans (hb''.mono hb.size))) (Nat.le_trans hb.size hb''.size) hnl (by omega) y1 y2 (by omega) (by omega) (by omega) (by omega) (by omega)
      rw [show (#[.agg #[.int .i64 H, .int .i64 V, .int .i64 p, .int .i64 t, .int .i64 q, .int .i64 0, .int .i64 d, .int .i64 l, .int .i64 R, .int .i64 C, .slice A n cp]] ++ (#[.int .i64 (i : Int), .int .i64 (j : Int)] ++ #[]) : Array Value) = #[.agg #[.int .i64 H, .int .i64 V, .int .i64 p, .int .i64 t, .int .i64 q, .int .i64 0, .int .i64 d, .int .i64 l, .int .i64 R, .int .i64 C, .slice A n cp], .int .i64 (i : Int), .int .i64 (j : Int)] from rfl]
      exact this) (fun args w => by kernel_rfl) (by omega) (by omega) hHV)
  generalize grdL H V (pixV R C xs p t q d l) = GL at *
  clear hr h1 h2 h3 h4 y1 y2 y3 y4 y5 x1 x2 x3 x4 x5 x6 x7 b1 b2 b3 u1 u2 g1 g2 g3 hnl hH hV hHV
  have HZ0 : Hid ((((w.alloc (.cells #[.int .i64 R, .int .i64 C, .slice A n cp] 41)).alloc (.cells #[.int .i64 p, .int .i64 t, .int .i64 q, .int .i64 0, .int .i64 d, .int .i64 l] 53)).alloc (.cells #[.int .i64 0, .int .i64 0, .slice none 0 0] 32)).heap[w.heap.size + 1 + 1]? = some (.cells #[.int .i64 0, .int .i64 0, .slice none 0 0] 32 (0, 0))) := Lib.hid (heap_alloc_at (by simp))
  have HG0 : Hid ((((w.alloc (.cells #[.int .i64 R, .int .i64 C, .slice A n cp] 41)).alloc (.cells #[.int .i64 p, .int .i64 t, .int .i64 q, .int .i64 0, .int .i64 d, .int .i64 l] 53)).alloc (.cells #[.int .i64 0, .int .i64 0, .slice none 0 0] 32)).heap[w.heap.size]? = some (.cells #[.int .i64 R, .int .i64 C, .slice A n cp] 41 (0, 0))) := Lib.hid (blk_alloc (blk_alloc (heap_alloc_new _ _) (by simp)) (by simp; omega))
  have HP0 : Hid ((((w.alloc (.cells #[.int .i64 R, .int .i64 C, .slice A n cp] 41)).alloc (.cells #[.int .i64 p, .int .i64 t, .int .i64 q, .int .i64 0, .int .i64 d, .int .i64 l] 53)).alloc (.cells #[.int .i64 0, .int .i64 0, .slice none 0 0] 32)).heap[w.heap.size + 1]? = some (.cells #[.int .i64 p, .int .i64 t, .int .i64 q, .int .i64 0, .int .i64 d, .int .i64 l] 53 (0, 0))) := Lib.hid (blk_alloc (heap_alloc_at (by simp)) (by simp))
  go_enter Try.func29, Try.ntmps29
  go_upto_region 8 with (first | (go_at_call 63; go_call (HA.out _ (by (repeat (first | (with_reducible assumption) | (with_reducible exact Below.refl _ _) | (with_reducible refine below_drewN' ?_ _) | (with_reducible refine Below.drew ?_) | ((with_reducible refine Below.alloc ?_ ?_ _); rotate_left; focus (first | (simp; done) | (simp; omega) | omega)) | ((with_reducible refine Below.setCell ?_ ?_ _); rotate_left; focus (first | (simp; done) | (simp; omega) | omega)))))) as e1 w1 ⟨rfl, hb1⟩; obtain ⟨hc1, hf1⟩ := bcell hb1; have hB1 : Below w.heap.size w w1 := (below_then (by first | (go_grown; done) | (repeat (first | (with_reducible assumption) | (with_reducible exact Below.refl _ _) | (with_reducible refine below_drewN' ?_ _) | (with_reducible refine Below.drew ?_) | ((with_reducible refine Below.alloc ?_ ?_ _); rotate_left; focus (first | (simp; done) | (simp; omega) | omega)) | ((with_reducible refine Below.setCell ?_ ?_ _); rotate_left; focus (first | (simp; done) | (simp; omega) | omega))))) (by first | omega | (simp; done) | (simp; omega)) hb1); have hz1a : w.heap.size < w1.heap.size := (by have := hb1.size; first | omega | (simp at this; omega)); have hz1b : w.heap.size + 1 < w1.heap.size := (by have := hb1.size; first | omega | (simp at this; omega)); have hz1c : w.heap.size + 1 + 1 < w1.heap.size := (by have := hb1.size; first | omega | (simp at this; omega))) | (go_at_call 64; go_call (HPR.out _) as e2 w2 ⟨rfl, hb2⟩; obtain ⟨hc2, hf2⟩ := bcell hb2; have hB2 : Below w.heap.size w w2 := (below_then (by first | (go_grown; done) | (repeat (first | (with_reducible assumption) | (with_reducible exact Below.refl _ _) | (with_reducible refine below_drewN' ?_ _) | (with_reducible refine Below.drew ?_) | ((with_reducible refine Below.alloc ?_ ?_ _); rotate_left; focus (first | (simp; done) | (simp; omega) | omega)) | ((with_reducible refine Below.setCell ?_ ?_ _); rotate_left; focus (first | (simp; done) | (simp; omega) | omega))))) (by first | omega | (simp; done) | (simp; omega)) hb2); have hz2a : w.heap.size < w2.heap.size := (by have := hb2.size; first | omega | (simp at this; omega)); have hz2b : w.heap.size + 1 < w2.heap.size := (by have := hb2.size; first | omega | (simp at this; omega)); have hz2c : w.heap.size + 1 + 1 < w2.heap.size := (by have := hb2.size; first | omega | (simp at this; omega))) | (go_at_call 65; go_call (HK.out _ (by (repeat (first | (with_reducible assumption) | (with_reducible exact Below.refl _ _) | (with_reducible refine below_drewN' ?_ _) | (with_reducible refine Below.drew ?_) | ((with_reducible refine Below.alloc ?_ ?_ _); rotate_left; focus (first | (simp; done) | (simp; omega) | omega)) | ((with_reducible refine Below.setCell ?_ ?_ _); rotate_left; focus (first | (simp; done) | (simp; omega) | omega)))))) as e3 w3 ⟨rfl, hb3⟩; obtain ⟨hc3, hf3⟩ := bcell hb3; have hB3 : Below w.heap.size w w3 := (below_then (by first | (go_grown; done) | (repeat (first | (with_reducible assumption) | (with_reducible exact Below.refl _ _) | (with_reducible refine below_drewN' ?_ _) | (with_reducible refine Below.drew ?_) | ((with_reducible refine Below.alloc ?_ ?_ _); rotate_left; focus (first | (simp; done) | (simp; omega) | omega)) | ((with_reducible refine Below.setCell ?_ ?_ _); rotate_left; focus (first | (simp; done) | (simp; omega) | omega))))) (by first | omega | (simp; done) | (simp; omega)) hb3); have hz3a : w.heap.size < w3.heap.size := (by have := hb3.size; first | omega | (simp at this; omega)); have hz3b : w.heap.size + 1 < w3.heap.size := (by have := hb3.size; first | omega | (simp at this; omega)); have hz3c : w.heap.size + 1 + 1 < w3.heap.size := (by have := hb3.size; first | omega | (simp at this; omega))) | (go_at_call 66; go_call (HS.out _) as e4 w4 ⟨rfl, hb4⟩; obtain ⟨hc4, hf4⟩ := bcell hb4; have hB4 : Below w.heap.size w w4 := (below_then (by first | (go_grown; done) | (repeat (first | (with_reducible assumption) | (with_reducible exact Below.refl _ _) | (with_reducible refine below_drewN' ?_ _) | (with_reducible refine Below.drew ?_) | ((with_reducible refine Below.alloc ?_ ?_ _); rotate_left; focus (first | (simp; done) | (simp; omega) | omega)) | ((with_reducible refine Below.setCell ?_ ?_ _); rotate_left; focus (first | (simp; done) | (simp; omega) | omega))))) (by first | omega | (simp; done) | (simp; omega)) hb4); have hz4a : w.heap.size < w4.heap.size := (by have := hb4.size; first | omega | (simp at this; omega)); have hz4b : w.heap.size + 1 < w4.heap.size := (by have := hb4.size; first | omega | (simp at this; omega)); have hz4c : w.heap.size + 1 + 1 < w4.heap.size := (by have := hb4.size; first | omega | (simp at this; omega))))
  have HZ4 := Lib.hid (blk_below (blk_below (blk_below (blk_below HZ0.out hb1 (by simp)) hb2 (by omega)) hb3 (by omega)) hb4 (by omega))
  have HG4 := Lib.hid (blk_below (blk_below (blk_below (blk_below HG0.out hb1 (by first | (simp; done) | (simp; omega))) hb2 (by omega)) hb3 (by omega)) hb4 (by omega))
  have HP4 := Lib.hid (blk_below (blk_below (blk_below (blk_below HP0.out hb1 (by first | (simp; done) | (simp; omega))) hb2 (by omega)) hb3 (by omega)) hb4 (by omega))
  clear hc1 hf1 hb1 hB1 hc2 hf2 hb2 hB2 hc3 hf3 hb3 hB3 hc4 hf4 hb4
  obtain ⟨a0, a1, a2, -⟩ := blk3 HG4.out
  obtain ⟨q0, q1, q2, q3, q4, q5, -⟩ := blk6p HP4.out
  refine wp_region_qat [] 10 [Mkr.blk (fun g => .pointer (some ⟨g, 0, none⟩)) (.cells #[.int .i64 0, .int .i64 0, .int .i64 0, .int .i64 0, .int .i64 0, .int .i64 0, .int .i64 0, .int .i64 0, .int .i64 0, .int .i64 0, .slice none 0 0] 106)] (by kernel_rfl) (by kernel_rfl) ?_
  intro hbc
  simp only [List.take_succ_cons, List.take_zero, List.drop_succ_cons, List.drop_zero]
  repeat (first
    | refine wpQ_pass rfl ?_
    | (refine wpQ_step rfl (fun K hK => ?_)
       go_simp
       first
         | (refine hK _ ?_; clear hK K)
         | (apply Exists.intro
            refine ⟨fun z => ?_, ?_⟩
            focus (first | (go_at_call 67; with_reducible exact HSO.out _))
            refine hK _ ?_
            clear hK K)))
  refine wpQ_nil ⟨?_, ?_⟩
  · refine ⟨fun z => ?_, rfl⟩
    · set_option maxRecDepth 100000 in refine makes_blk ?_
      go_simp
  intro u5a g5a hi5a hg5a hl5a n5a w5 hb5 hF5
  clear hbc
  obtain ⟨hc5, hf5⟩ := bcell hb5
  obtain ⟨_, hs5a, ⟨rfl, rfl, hF5a⟩⟩ := hF5
  have hB5 : Below w.heap.size w w5 := below_then (by first | (go_grown; done) | (repeat (first | (with_reducible assumption) | (with_reducible exact Below.refl _ _) | (with_reducible refine below_drewN' ?_ _) | (with_reducible refine Below.drew ?_) | ((with_reducible refine Below.alloc ?_ ?_ _); rotate_left; focus (first | (simp; done) | (simp; omega) | omega)) | ((with_reducible refine Below.setCell ?_ ?_ _); rotate_left; focus (first | (simp; done) | (simp; omega) | omega))))) (by first | (simp; done) | (simp; omega) | omega) hb5
  have hz5a : w.heap.size < w5.heap.size := (by have := hb5.size; first | omega | (simp at this; omega))
  have hz5b : w.heap.size + 1 < w5.heap.size := (by have := hb5.size; first | omega | (simp at this; omega))
  have hz5c : w.heap.size + 1 + 1 < w5.heap.size := (by have := hb5.size; first | omega | (simp at this; omega))
  have hcg5a := blk_cell hF5a
  have hfg5a := blk_frozen hF5a
  try simp only [World.size_alloc] at hg5a
  clear n5a
  try simp only [Act.put, List.setIfInBounds_toArray, List.set_cons_succ, List.set_cons_zero]
  have HZ5 := Lib.hid (blk_below HZ4.out hb5 (by omega))
  clear hc5 hf5 hb5 a0 a1 a2 q0 q1 q2 q3 q4 q5
  have HG6 := Lib.hid (res11 hF5a (.int .i64 H) (.int .i64 V) (.int .i64 p) (.int .i64 t) (.int .i64 q) (.int .i64 0) (.int .i64 d) (.int .i64 l) (.int .i64 R) (.int .i64 C) (.slice A n cp))
  have hne : w.heap.size + 1 + 1 ≠ g5a := by omega
  have HZ6 : Hid ((w5 |>.setCell ⟨g5a, 0, none⟩ (.int .i64 H) |>.setCell ⟨g5a, 1, none⟩ (.int .i64 V) |>.setCell ⟨g5a, 2, none⟩ (.int .i64 p) |>.setCell ⟨g5a, 3, none⟩ (.int .i64 t) |>.setCell ⟨g5a, 4, none⟩ (.int .i64 q) |>.setCell ⟨g5a, 5, none⟩ (.int .i64 0) |>.setCell ⟨g5a, 6, none⟩ (.int .i64 d) |>.setCell ⟨g5a, 7, none⟩ (.int .i64 l) |>.setCell ⟨g5a, 8, none⟩ (.int .i64 R) |>.setCell ⟨g5a, 9, none⟩ (.int .i64 C) |>.setCell ⟨g5a, 10, none⟩ (.slice A n cp)).heap[w.heap.size + 1 + 1]? = _) := Lib.hid (blk_other (blk_other (blk_other (blk_other (blk_other (blk_other (blk_other (blk_other (blk_other (blk_other (blk_other HZ5.out hne) hne) hne) hne) hne) hne) hne) hne) hne) hne) hne)
  have hwg : w.heap.size ≤ g5a := by omega
  have HB6 : Hid (Below w.heap.size w (w5 |>.setCell ⟨g5a, 0, none⟩ (.int .i64 H) |>.setCell ⟨g5a, 1, none⟩ (.int .i64 V) |>.setCell ⟨g5a, 2, none⟩ (.int .i64 p) |>.setCell ⟨g5a, 3, none⟩ (.int .i64 t) |>.setCell ⟨g5a, 4, none⟩ (.int .i64 q) |>.setCell ⟨g5a, 5, none⟩ (.int .i64 0) |>.setCell ⟨g5a, 6, none⟩ (.int .i64 d) |>.setCell ⟨g5a, 7, none⟩ (.int .i64 l) |>.setCell ⟨g5a, 8, none⟩ (.int .i64 R) |>.setCell ⟨g5a, 9, none⟩ (.int .i64 C) |>.setCell ⟨g5a, 10, none⟩ (.slice A n cp))) := Lib.hid (Below.setCell (p := ⟨g5a, 10, none⟩) (Below.setCell (p := ⟨g5a, 9, none⟩) (Below.setCell (p := ⟨g5a, 8, none⟩) (Below.setCell (p := ⟨g5a, 7, none⟩) (Below.setCell (p := ⟨g5a, 6, none⟩) (Below.setCell (p := ⟨g5a, 5, none⟩) (Below.setCell (p := ⟨g5a, 4, none⟩) (Below.setCell (p := ⟨g5a, 3, none⟩) (Below.setCell (p := ⟨g5a, 2, none⟩) (Below.setCell (p := ⟨g5a, 1, none⟩) (Below.setCell (p := ⟨g5a, 0, none⟩) hB5 hwg (.int .i64 H)) hwg (.int .i64 V)) hwg (.int .i64 p)) hwg (.int .i64 t)) hwg (.int .i64 q)) hwg (.int .i64 0)) hwg (.int .i64 d)) hwg (.int .i64 l)) hwg (.int .i64 R)) hwg (.int .i64 C)) hwg (.slice A n cp))
  go_upto_region 9 with fail
  generalize (w5 |>.setCell ⟨g5a, 0, none⟩ (.int .i64 H) |>.setCell ⟨g5a, 1, none⟩ (.int .i64 V) |>.setCell ⟨g5a, 2, none⟩ (.int .i64 p) |>.setCell ⟨g5a, 3, none⟩ (.int .i64 t) |>.setCell ⟨g5a, 4, none⟩ (.int .i64 q) |>.setCell ⟨g5a, 5, none⟩ (.int .i64 0) |>.setCell ⟨g5a, 6, none⟩ (.int .i64 d) |>.setCell ⟨g5a, 7, none⟩ (.int .i64 l) |>.setCell ⟨g5a, 8, none⟩ (.int .i64 R) |>.setCell ⟨g5a, 9, none⟩ (.int .i64 C) |>.setCell ⟨g5a, 10, none⟩ (.slice A n cp)) = w6 at *
  clear hB5 hF5a hcg5a hfg5a hB4
  obtain ⟨f0, f1, f2, f3, f4, f5, f6, f7, f8, f9, f10, -⟩ := blk11 HG6.out
  have hb6 := HB6.out
  have hs6 : g5a < w6.heap.size := lt_of_block HG6.out
  go_wp2_with (go_at_call 68; with_reducible refine (HRS.out _ hb6).mono ?_; rintro e7 w7 ⟨v7, rfl, ho7, hb7⟩; have hB7 : Below w.heap.size w w7 := hb6.trans (hb7.mono hb6.size); have HZ7 := Lib.hid (blk_below HZ6.out hb7 (by omega)); obtain ⟨A7, c7, rfl, hr7⟩ := ho7.shape; have HO7 := Lib.hid ho7; clear ho7 hr7 hb7 f0 f1 f2 f3 f4 f5 f6 f7 f8 f9 f10; obtain ⟨z0, z1, z2, zf⟩ := blk3 HZ7.out)
  have hz7 : w.heap.size + 1 + 1 < w6.heap.size := by omega
  obtain ⟨s0, s1, s2⟩ := res3 HZ7.out (.int .i64 H) (.int .i64 V) (.slice A7 GL.length c7)
  (try simp only [Exit.inBlock, Exit.then]); refine bodyPost_ret (by simp [results, Try.results29, go_sem, s0, s1, s2]; try rfl) rfl ?_
  exact ⟨_, rfl, ((((HO7.out.setLt hz7 _).setLt hz7 _).setLt hz7 _)).more (by omega), by (repeat (first | (with_reducible assumption) | (with_reducible exact Below.refl _ _) | (with_reducible refine below_drewN' ?_ _) | (with_reducible refine Below.drew ?_) | ((with_reducible refine Below.alloc ?_ ?_ _); rotate_left; focus (first | (simp; done) | (simp; omega) | omega)) | ((with_reducible refine Below.setCell ?_ ?_ _); rotate_left; focus (first | (simp; done) | (simp; omega) | omega))))⟩
theorem PrintGrid_any (R C : Int) (A : Option Addr) (n cp : Nat) (xs : List Int) (p t q d l : Int) (w : World) (B : Nat) (hr : RI w B A n xs) (hB : B ≤ w.heap.size) (hn : n ≤ 1000000000000000) :
    Calls Try.prog 29 #[.agg #[.int .i64 R, .int .i64 C, .slice A n cp], .agg #[.int .i64 p, .int .i64 t, .int .i64 q, .int .i64 0, .int .i64 d, .int .i64 l]] w fun e w' => ∃ v, e = .returned (.tuple #[.agg #[.int .i64 (gK (prK R C xs p t q d l) ((R + 2 * q) * t)), .int .i64 (gK (prK R C xs p t q d l) ((C + 2 * q) * p)), v], .int .i64 (prK R C xs p t q d l)]) ∧ Own w' w.heap.size v (prL R C xs p t q d l) ∧ Below w.heap.size w w' := by
  unfold prL prK
  cases h1 : gridB R C xs
  · simpa [gK] using PrintGrid_a R C A n cp xs p t q d l w B hr hB hn h1
  cases h2 : prnB p t q 0 d l
  · simpa [gK] using PrintGrid_b R C A n cp xs p t q d l w B hr hB hn h1 h2
  cases h3 : posB xs
  · simpa [gK] using PrintGrid_c R C A n cp xs p t q d l w B hr hB hn h1 h2 h3
  by_cases h4 : psK R C p t q 0 d l = 0
  · simpa [gK, h4] using PrintGrid_e R C A n cp xs p t q d l w B hr hB hn h1 h2 h3 h4
  · simpa [gK, h4] using PrintGrid_d R C A n cp xs p t q d l w B hr hB hn h1 h2 h3 h4

set_option maxHeartbeats 4000000 in
theorem sPrintGrid_a (R C : Int) (A : Option Addr) (n cp : Nat) (xs : List Int) (p t q d l : Int) (w : World) (B : Nat) (hr : RI w B A n xs) (hB : B ≤ w.heap.size) (hn : n ≤ 1000000000000000) (h1 : gridB R C xs = false) :
    Calls Try.prog 30 #[.agg #[.int .i64 R, .int .i64 C, .slice A n cp], .agg #[.int .i64 p, .int .i64 t, .int .i64 q, .int .i64 0, .int .i64 d, .int .i64 l]] w fun e w' => ∃ v, e = .returned (.tuple #[.agg #[.int .i64 0, .int .i64 0, v], .int .i64 1]) ∧ Own w' w.heap.size v ([]) ∧ Below w.heap.size w w' := by
  have HA := Lib.hid (fun (w' : World) (hb : Below w.heap.size w w') => sIsGrid_any R C A n cp xs w' w.heap.size ((hr.more hB).below hb) hb.size hn)
  have HPR := Lib.hid (fun w => sIsPrint_any p t q 0 d l w)
  have HK := Lib.hid (fun (w' : World) (hb : Below w.heap.size w w') => l16Known_any R C A n cp xs w' w.heap.size ((hr.more hB).below hb) hb.size hn)
  have HS := Lib.hid (fun w => sPrintSize_any R C p t q 0 d l w)
  rw [h1] at HA
  clear hr h1
  clear HPR HK HS
  have HZ0 : Hid ((((w.alloc (.cells #[.int .i64 R, .int .i64 C, .slice A n cp] 41)).alloc (.cells #[.int .i64 p, .int .i64 t, .int .i64 q, .int .i64 0, .int .i64 d, .int .i64 l] 53)).alloc (.cells #[.int .i64 0, .int .i64 0, .slice none 0 0] 32)).heap[w.heap.size + 1 + 1]? = some (.cells #[.int .i64 0, .int .i64 0, .slice none 0 0] 32 (0, 0))) := Lib.hid (heap_alloc_at (by simp))
  go_enter Try.func30, Try.ntmps30
  go_upto_region 2 with (first | (go_at_call 70; go_call (HA.out _ (by (repeat (first | (with_reducible assumption) | (with_reducible exact Below.refl _ _) | (with_reducible refine below_drewN' ?_ _) | (with_reducible refine Below.drew ?_) | ((with_reducible refine Below.alloc ?_ ?_ _); rotate_left; focus (first | (simp; done) | (simp; omega) | omega)) | ((with_reducible refine Below.setCell ?_ ?_ _); rotate_left; focus (first | (simp; done) | (simp; omega) | omega)))))) as e1 w1 ⟨rfl, hb1⟩; obtain ⟨hc1, hf1⟩ := bcell hb1; have hB1 : Below w.heap.size w w1 := (below_then (by first | (go_grown; done) | (repeat (first | (with_reducible assumption) | (with_reducible exact Below.refl _ _) | (with_reducible refine below_drewN' ?_ _) | (with_reducible refine Below.drew ?_) | ((with_reducible refine Below.alloc ?_ ?_ _); rotate_left; focus (first | (simp; done) | (simp; omega) | omega)) | ((with_reducible refine Below.setCell ?_ ?_ _); rotate_left; focus (first | (simp; done) | (simp; omega) | omega))))) (by first | omega | (simp; done) | (simp; omega)) hb1); have hz1a : w.heap.size < w1.heap.size := (by have := hb1.size; first | omega | (simp at this; omega)); have hz1b : w.heap.size + 1 < w1.heap.size := (by have := hb1.size; first | omega | (simp at this; omega)); have hz1c : w.heap.size + 1 + 1 < w1.heap.size := (by have := hb1.size; first | omega | (simp at this; omega))))
  have HZ1 := Lib.hid (blk_below HZ0.out hb1 (by first | (simp; done) | omega | (simp; omega)))
  have hzw : w.heap.size + 1 + 1 < w1.heap.size := by omega
  have HBF := Lib.hid hB1
  clear hc1 hf1 hb1 hB1
  obtain ⟨z0, z1, z2, zf⟩ := blk3 HZ1.out
  obtain ⟨s0, s1, s2⟩ := res3 HZ1.out (.int .i64 0) (.int .i64 0) (.slice none 0 0)
  go_wp2_with fail
  (try simp only [Exit.inBlock, Exit.then]); refine bodyPost_ret (by simp [results, Try.results30, go_sem, s0, s1, s2]; try rfl) rfl ?_
  exact ⟨_, rfl, Own.nil, HBF.out.trans (by (repeat (first | (with_reducible assumption) | (with_reducible exact Below.refl _ _) | (with_reducible refine below_drewN' ?_ _) | (with_reducible refine Below.drew ?_) | ((with_reducible refine Below.alloc ?_ ?_ _); rotate_left; focus (first | (simp; done) | (simp; omega) | omega)) | ((with_reducible refine Below.setCell ?_ ?_ _); rotate_left; focus (first | (simp; done) | (simp; omega) | omega)))))⟩
set_option maxHeartbeats 4000000 in
theorem sPrintGrid_b (R C : Int) (A : Option Addr) (n cp : Nat) (xs : List Int) (p t q d l : Int) (w : World) (B : Nat) (hr : RI w B A n xs) (hB : B ≤ w.heap.size) (hn : n ≤ 1000000000000000) (h1 : gridB R C xs = true) (h2 : prnB p t q 0 d l = false) :
    Calls Try.prog 30 #[.agg #[.int .i64 R, .int .i64 C, .slice A n cp], .agg #[.int .i64 p, .int .i64 t, .int .i64 q, .int .i64 0, .int .i64 d, .int .i64 l]] w fun e w' => ∃ v, e = .returned (.tuple #[.agg #[.int .i64 0, .int .i64 0, v], .int .i64 1]) ∧ Own w' w.heap.size v ([]) ∧ Below w.heap.size w w' := by
  have HA := Lib.hid (fun (w' : World) (hb : Below w.heap.size w w') => sIsGrid_any R C A n cp xs w' w.heap.size ((hr.more hB).below hb) hb.size hn)
  have HPR := Lib.hid (fun w => sIsPrint_any p t q 0 d l w)
  have HK := Lib.hid (fun (w' : World) (hb : Below w.heap.size w w') => l16Known_any R C A n cp xs w' w.heap.size ((hr.more hB).below hb) hb.size hn)
  have HS := Lib.hid (fun w => sPrintSize_any R C p t q 0 d l w)
  rw [h1] at HA
  rw [h2] at HPR
  clear hr h1 h2
  clear HK HS
  have HZ0 : Hid ((((w.alloc (.cells #[.int .i64 R, .int .i64 C, .slice A n cp] 41)).alloc (.cells #[.int .i64 p, .int .i64 t, .int .i64 q, .int .i64 0, .int .i64 d, .int .i64 l] 53)).alloc (.cells #[.int .i64 0, .int .i64 0, .slice none 0 0] 32)).heap[w.heap.size + 1 + 1]? = some (.cells #[.int .i64 0, .int .i64 0, .slice none 0 0] 32 (0, 0))) := Lib.hid (heap_alloc_at (by simp))
  go_enter Try.func30, Try.ntmps30
  go_upto_region 2 with (first | (go_at_call 70; go_call (HA.out _ (by (repeat (first | (with_reducible assumption) | (with_reducible exact Below.refl _ _) | (with_reducible refine below_drewN' ?_ _) | (with_reducible refine Below.drew ?_) | ((with_reducible refine Below.alloc ?_ ?_ _); rotate_left; focus (first | (simp; done) | (simp; omega) | omega)) | ((with_reducible refine Below.setCell ?_ ?_ _); rotate_left; focus (first | (simp; done) | (simp; omega) | omega)))))) as e1 w1 ⟨rfl, hb1⟩; obtain ⟨hc1, hf1⟩ := bcell hb1; have hB1 : Below w.heap.size w w1 := (below_then (by first | (go_grown; done) | (repeat (first | (with_reducible assumption) | (with_reducible exact Below.refl _ _) | (with_reducible refine below_drewN' ?_ _) | (with_reducible refine Below.drew ?_) | ((with_reducible refine Below.alloc ?_ ?_ _); rotate_left; focus (first | (simp; done) | (simp; omega) | omega)) | ((with_reducible refine Below.setCell ?_ ?_ _); rotate_left; focus (first | (simp; done) | (simp; omega) | omega))))) (by first | omega | (simp; done) | (simp; omega)) hb1); have hz1a : w.heap.size < w1.heap.size := (by have := hb1.size; first | omega | (simp at this; omega)); have hz1b : w.heap.size + 1 < w1.heap.size := (by have := hb1.size; first | omega | (simp at this; omega)); have hz1c : w.heap.size + 1 + 1 < w1.heap.size := (by have := hb1.size; first | omega | (simp at this; omega))) | (go_at_call 71; go_call (HPR.out _) as e2 w2 ⟨rfl, hb2⟩; obtain ⟨hc2, hf2⟩ := bcell hb2; have hB2 : Below w.heap.size w w2 := (below_then (by first | (go_grown; done) | (repeat (first | (with_reducible assumption) | (with_reducible exact Below.refl _ _) | (with_reducible refine below_drewN' ?_ _) | (with_reducible refine Below.drew ?_) | ((with_reducible refine Below.alloc ?_ ?_ _); rotate_left; focus (first | (simp; done) | (simp; omega) | omega)) | ((with_reducible refine Below.setCell ?_ ?_ _); rotate_left; focus (first | (simp; done) | (simp; omega) | omega))))) (by first | omega | (simp; done) | (simp; omega)) hb2); have hz2a : w.heap.size < w2.heap.size := (by have := hb2.size; first | omega | (simp at this; omega)); have hz2b : w.heap.size + 1 < w2.heap.size := (by have := hb2.size; first | omega | (simp at this; omega)); have hz2c : w.heap.size + 1 + 1 < w2.heap.size := (by have := hb2.size; first | omega | (simp at this; omega))))
  have HZ1 := Lib.hid (blk_below (blk_below HZ0.out hb1 (by first | (simp; done) | omega | (simp; omega))) hb2 (by first | (simp; done) | omega | (simp; omega)))
  have hzw : w.heap.size + 1 + 1 < w2.heap.size := by omega
  have HBF := Lib.hid hB2
  clear hc2 hf2 hb2 hB2 hc1 hf1 hb1 hB1
  obtain ⟨z0, z1, z2, zf⟩ := blk3 HZ1.out
  obtain ⟨s0, s1, s2⟩ := res3 HZ1.out (.int .i64 0) (.int .i64 0) (.slice none 0 0)
  go_wp2_with fail
  (try simp only [Exit.inBlock, Exit.then]); refine bodyPost_ret (by simp [results, Try.results30, go_sem, s0, s1, s2]; try rfl) rfl ?_
  exact ⟨_, rfl, Own.nil, HBF.out.trans (by (repeat (first | (with_reducible assumption) | (with_reducible exact Below.refl _ _) | (with_reducible refine below_drewN' ?_ _) | (with_reducible refine Below.drew ?_) | ((with_reducible refine Below.alloc ?_ ?_ _); rotate_left; focus (first | (simp; done) | (simp; omega) | omega)) | ((with_reducible refine Below.setCell ?_ ?_ _); rotate_left; focus (first | (simp; done) | (simp; omega) | omega)))))⟩
set_option maxHeartbeats 4000000 in
theorem sPrintGrid_c (R C : Int) (A : Option Addr) (n cp : Nat) (xs : List Int) (p t q d l : Int) (w : World) (B : Nat) (hr : RI w B A n xs) (hB : B ≤ w.heap.size) (hn : n ≤ 1000000000000000) (h1 : gridB R C xs = true) (h2 : prnB p t q 0 d l = true) (h3 : posB xs = false) :
    Calls Try.prog 30 #[.agg #[.int .i64 R, .int .i64 C, .slice A n cp], .agg #[.int .i64 p, .int .i64 t, .int .i64 q, .int .i64 0, .int .i64 d, .int .i64 l]] w fun e w' => ∃ v, e = .returned (.tuple #[.agg #[.int .i64 0, .int .i64 0, v], .int .i64 5]) ∧ Own w' w.heap.size v ([]) ∧ Below w.heap.size w w' := by
  have HA := Lib.hid (fun (w' : World) (hb : Below w.heap.size w w') => sIsGrid_any R C A n cp xs w' w.heap.size ((hr.more hB).below hb) hb.size hn)
  have HPR := Lib.hid (fun w => sIsPrint_any p t q 0 d l w)
  have HK := Lib.hid (fun (w' : World) (hb : Below w.heap.size w w') => l16Known_any R C A n cp xs w' w.heap.size ((hr.more hB).below hb) hb.size hn)
  have HS := Lib.hid (fun w => sPrintSize_any R C p t q 0 d l w)
  rw [h1] at HA
  rw [h2] at HPR
  rw [h1, h3] at HK
  clear hr h1 h2 h3
  clear HS
  have HZ0 : Hid ((((w.alloc (.cells #[.int .i64 R, .int .i64 C, .slice A n cp] 41)).alloc (.cells #[.int .i64 p, .int .i64 t, .int .i64 q, .int .i64 0, .int .i64 d, .int .i64 l] 53)).alloc (.cells #[.int .i64 0, .int .i64 0, .slice none 0 0] 32)).heap[w.heap.size + 1 + 1]? = some (.cells #[.int .i64 0, .int .i64 0, .slice none 0 0] 32 (0, 0))) := Lib.hid (heap_alloc_at (by simp))
  go_enter Try.func30, Try.ntmps30
  go_upto_region 4 with (first | (go_at_call 70; go_call (HA.out _ (by (repeat (first | (with_reducible assumption) | (with_reducible exact Below.refl _ _) | (with_reducible refine below_drewN' ?_ _) | (with_reducible refine Below.drew ?_) | ((with_reducible refine Below.alloc ?_ ?_ _); rotate_left; focus (first | (simp; done) | (simp; omega) | omega)) | ((with_reducible refine Below.setCell ?_ ?_ _); rotate_left; focus (first | (simp; done) | (simp; omega) | omega)))))) as e1 w1 ⟨rfl, hb1⟩; obtain ⟨hc1, hf1⟩ := bcell hb1; have hB1 : Below w.heap.size w w1 := (below_then (by first | (go_grown; done) | (repeat (first | (with_reducible assumption) | (with_reducible exact Below.refl _ _) | (with_reducible refine below_drewN' ?_ _) | (with_reducible refine Below.drew ?_) | ((with_reducible refine Below.alloc ?_ ?_ _); rotate_left; focus (first | (simp; done) | (simp; omega) | omega)) | ((with_reducible refine Below.setCell ?_ ?_ _); rotate_left; focus (first | (simp; done) | (simp; omega) | omega))))) (by first | omega | (simp; done) | (simp; omega)) hb1); have hz1a : w.heap.size < w1.heap.size := (by have := hb1.size; first | omega | (simp at this; omega)); have hz1b : w.heap.size + 1 < w1.heap.size := (by have := hb1.size; first | omega | (simp at this; omega)); have hz1c : w.heap.size + 1 + 1 < w1.heap.size := (by have := hb1.size; first | omega | (simp at this; omega))) | (go_at_call 71; go_call (HPR.out _) as e2 w2 ⟨rfl, hb2⟩; obtain ⟨hc2, hf2⟩ := bcell hb2; have hB2 : Below w.heap.size w w2 := (below_then (by first | (go_grown; done) | (repeat (first | (with_reducible assumption) | (with_reducible exact Below.refl _ _) | (with_reducible refine below_drewN' ?_ _) | (with_reducible refine Below.drew ?_) | ((with_reducible refine Below.alloc ?_ ?_ _); rotate_left; focus (first | (simp; done) | (simp; omega) | omega)) | ((with_reducible refine Below.setCell ?_ ?_ _); rotate_left; focus (first | (simp; done) | (simp; omega) | omega))))) (by first | omega | (simp; done) | (simp; omega)) hb2); have hz2a : w.heap.size < w2.heap.size := (by have := hb2.size; first | omega | (simp at this; omega)); have hz2b : w.heap.size + 1 < w2.heap.size := (by have := hb2.size; first | omega | (simp at this; omega)); have hz2c : w.heap.size + 1 + 1 < w2.heap.size := (by have := hb2.size; first | omega | (simp at this; omega))) | (go_at_call 72; go_call (HK.out _ (by (repeat (first | (with_reducible assumption) | (with_reducible exact Below.refl _ _) | (with_reducible refine below_drewN' ?_ _) | (with_reducible refine Below.drew ?_) | ((with_reducible refine Below.alloc ?_ ?_ _); rotate_left; focus (first | (simp; done) | (simp; omega) | omega)) | ((with_reducible refine Below.setCell ?_ ?_ _); rotate_left; focus (first | (simp; done) | (simp; omega) | omega)))))) as e3 w3 ⟨rfl, hb3⟩; obtain ⟨hc3, hf3⟩ := bcell hb3; have hB3 : Below w.heap.size w w3 := (below_then (by first | (go_grown; done) | (repeat (first | (with_reducible assumption) | (with_reducible exact Below.refl _ _) | (with_reducible refine below_drewN' ?_ _) | (with_reducible refine Below.drew ?_) | ((with_reducible refine Below.alloc ?_ ?_ _); rotate_left; focus (first | (simp; done) | (simp; omega) | omega)) | ((with_reducible refine Below.setCell ?_ ?_ _); rotate_left; focus (first | (simp; done) | (simp; omega) | omega))))) (by first | omega | (simp; done) | (simp; omega)) hb3); have hz3a : w.heap.size < w3.heap.size := (by have := hb3.size; first | omega | (simp at this; omega)); have hz3b : w.heap.size + 1 < w3.heap.size := (by have := hb3.size; first | omega | (simp at this; omega)); have hz3c : w.heap.size + 1 + 1 < w3.heap.size := (by have := hb3.size; first | omega | (simp at this; omega))))
  have HZ1 := Lib.hid (blk_below (blk_below (blk_below HZ0.out hb1 (by first | (simp; done) | omega | (simp; omega))) hb2 (by first | (simp; done) | omega | (simp; omega))) hb3 (by first | (simp; done) | omega | (simp; omega)))
  have hzw : w.heap.size + 1 + 1 < w3.heap.size := by omega
  have HBF := Lib.hid hB3
  clear hc3 hf3 hb3 hB3 hc2 hf2 hb2 hB2 hc1 hf1 hb1 hB1
  obtain ⟨z0, z1, z2, zf⟩ := blk3 HZ1.out
  obtain ⟨s0, s1, s2⟩ := res3 HZ1.out (.int .i64 0) (.int .i64 0) (.slice none 0 0)
  go_wp2_with fail
  (try simp only [Exit.inBlock, Exit.then]); refine bodyPost_ret (by simp [results, Try.results30, go_sem, s0, s1, s2]; try rfl) rfl ?_
  exact ⟨_, rfl, Own.nil, HBF.out.trans (by (repeat (first | (with_reducible assumption) | (with_reducible exact Below.refl _ _) | (with_reducible refine below_drewN' ?_ _) | (with_reducible refine Below.drew ?_) | ((with_reducible refine Below.alloc ?_ ?_ _); rotate_left; focus (first | (simp; done) | (simp; omega) | omega)) | ((with_reducible refine Below.setCell ?_ ?_ _); rotate_left; focus (first | (simp; done) | (simp; omega) | omega)))))⟩
set_option maxHeartbeats 4000000 in
theorem sPrintGrid_d (R C : Int) (A : Option Addr) (n cp : Nat) (xs : List Int) (p t q d l : Int) (w : World) (B : Nat) (hr : RI w B A n xs) (hB : B ≤ w.heap.size) (hn : n ≤ 1000000000000000) (h1 : gridB R C xs = true) (h2 : prnB p t q 0 d l = true) (h3 : posB xs = true) (h4 : psK R C p t q 0 d l ≠ 0) :
    Calls Try.prog 30 #[.agg #[.int .i64 R, .int .i64 C, .slice A n cp], .agg #[.int .i64 p, .int .i64 t, .int .i64 q, .int .i64 0, .int .i64 d, .int .i64 l]] w fun e w' => ∃ v, e = .returned (.tuple #[.agg #[.int .i64 0, .int .i64 0, v], .int .i64 (psK R C p t q 0 d l)]) ∧ Own w' w.heap.size v ([]) ∧ Below w.heap.size w w' := by
  have HA := Lib.hid (fun (w' : World) (hb : Below w.heap.size w w') => sIsGrid_any R C A n cp xs w' w.heap.size ((hr.more hB).below hb) hb.size hn)
  have HPR := Lib.hid (fun w => sIsPrint_any p t q 0 d l w)
  have HK := Lib.hid (fun (w' : World) (hb : Below w.heap.size w w') => l16Known_any R C A n cp xs w' w.heap.size ((hr.more hB).below hb) hb.size hn)
  have HS := Lib.hid (fun w => sPrintSize_any R C p t q 0 d l w)
  rw [h1] at HA
  rw [h2] at HPR
  rw [h1, h3] at HK
  have h5 : (psK R C p t q 0 d l != 0) = true := by simpa using h4
  rw [gK_no h4, gK_no h4] at HS
  generalize psK R C p t q 0 d l = K at *
  clear hr h1 h2 h3 h4
  have HZ0 : Hid ((((w.alloc (.cells #[.int .i64 R, .int .i64 C, .slice A n cp] 41)).alloc (.cells #[.int .i64 p, .int .i64 t, .int .i64 q, .int .i64 0, .int .i64 d, .int .i64 l] 53)).alloc (.cells #[.int .i64 0, .int .i64 0, .slice none 0 0] 32)).heap[w.heap.size + 1 + 1]? = some (.cells #[.int .i64 0, .int .i64 0, .slice none 0 0] 32 (0, 0))) := Lib.hid (heap_alloc_at (by simp))
  go_enter Try.func30, Try.ntmps30
  go_upto_region 7 with (first | (go_at_call 70; go_call (HA.out _ (by (repeat (first | (with_reducible assumption) | (with_reducible exact Below.refl _ _) | (with_reducible refine below_drewN' ?_ _) | (with_reducible refine Below.drew ?_) | ((with_reducible refine Below.alloc ?_ ?_ _); rotate_left; focus (first | (simp; done) | (simp; omega) | omega)) | ((with_reducible refine Below.setCell ?_ ?_ _); rotate_left; focus (first | (simp; done) | (simp; omega) | omega)))))) as e1 w1 ⟨rfl, hb1⟩; obtain ⟨hc1, hf1⟩ := bcell hb1; have hB1 : Below w.heap.size w w1 := (below_then (by first | (go_grown; done) | (repeat (first | (with_reducible assumption) | (with_reducible exact Below.refl _ _) | (with_reducible refine below_drewN' ?_ _) | (with_reducible refine Below.drew ?_) | ((with_reducible refine Below.alloc ?_ ?_ _); rotate_left; focus (first | (simp; done) | (simp; omega) | omega)) | ((with_reducible refine Below.setCell ?_ ?_ _); rotate_left; focus (first | (simp; done) | (simp; omega) | omega))))) (by first | omega | (simp; done) | (simp; omega)) hb1); have hz1a : w.heap.size < w1.heap.size := (by have := hb1.size; first | omega | (simp at this; omega)); have hz1b : w.heap.size + 1 < w1.heap.size := (by have := hb1.size; first | omega | (simp at this; omega)); have hz1c : w.heap.size + 1 + 1 < w1.heap.size := (by have := hb1.size; first | omega | (simp at this; omega))) | (go_at_call 71; go_call (HPR.out _) as e2 w2 ⟨rfl, hb2⟩; obtain ⟨hc2, hf2⟩ := bcell hb2; have hB2 : Below w.heap.size w w2 := (below_then (by first | (go_grown; done) | (repeat (first | (with_reducible assumption) | (with_reducible exact Below.refl _ _) | (with_reducible refine below_drewN' ?_ _) | (with_reducible refine Below.drew ?_) | ((with_reducible refine Below.alloc ?_ ?_ _); rotate_left; focus (first | (simp; done) | (simp; omega) | omega)) | ((with_reducible refine Below.setCell ?_ ?_ _); rotate_left; focus (first | (simp; done) | (simp; omega) | omega))))) (by first | omega | (simp; done) | (simp; omega)) hb2); have hz2a : w.heap.size < w2.heap.size := (by have := hb2.size; first | omega | (simp at this; omega)); have hz2b : w.heap.size + 1 < w2.heap.size := (by have := hb2.size; first | omega | (simp at this; omega)); have hz2c : w.heap.size + 1 + 1 < w2.heap.size := (by have := hb2.size; first | omega | (simp at this; omega))) | (go_at_call 72; go_call (HK.out _ (by (repeat (first | (with_reducible assumption) | (with_reducible exact Below.refl _ _) | (with_reducible refine below_drewN' ?_ _) | (with_reducible refine Below.drew ?_) | ((with_reducible refine Below.alloc ?_ ?_ _); rotate_left; focus (first | (simp; done) | (simp; omega) | omega)) | ((with_reducible refine Below.setCell ?_ ?_ _); rotate_left; focus (first | (simp; done) | (simp; omega) | omega)))))) as e3 w3 ⟨rfl, hb3⟩; obtain ⟨hc3, hf3⟩ := bcell hb3; have hB3 : Below w.heap.size w w3 := (below_then (by first | (go_grown; done) | (repeat (first | (with_reducible assumption) | (with_reducible exact Below.refl _ _) | (with_reducible refine below_drewN' ?_ _) | (with_reducible refine Below.drew ?_) | ((with_reducible refine Below.alloc ?_ ?_ _); rotate_left; focus (first | (simp; done) | (simp; omega) | omega)) | ((with_reducible refine Below.setCell ?_ ?_ _); rotate_left; focus (first | (simp; done) | (simp; omega) | omega))))) (by first | omega | (simp; done) | (simp; omega)) hb3); have hz3a : w.heap.size < w3.heap.size := (by have := hb3.size; first | omega | (simp at this; omega)); have hz3b : w.heap.size + 1 < w3.heap.size := (by have := hb3.size; first | omega | (simp at this; omega)); have hz3c : w.heap.size + 1 + 1 < w3.heap.size := (by have := hb3.size; first | omega | (simp at this; omega))) | (go_at_call 73; go_call (HS.out _) as e4 w4 ⟨rfl, hb4⟩; obtain ⟨hc4, hf4⟩ := bcell hb4; have hB4 : Below w.heap.size w w4 := (below_then (by first | (go_grown; done) | (repeat (first | (with_reducible assumption) | (with_reducible exact Below.refl _ _) | (with_reducible refine below_drewN' ?_ _) | (with_reducible refine Below.drew ?_) | ((with_reducible refine Below.alloc ?_ ?_ _); rotate_left; focus (first | (simp; done) | (simp; omega) | omega)) | ((with_reducible refine Below.setCell ?_ ?_ _); rotate_left; focus (first | (simp; done) | (simp; omega) | omega))))) (by first | omega | (simp; done) | (simp; omega)) hb4); have hz4a : w.heap.size < w4.heap.size := (by have := hb4.size; first | omega | (simp at this; omega)); have hz4b : w.heap.size + 1 < w4.heap.size := (by have := hb4.size; first | omega | (simp at this; omega)); have hz4c : w.heap.size + 1 + 1 < w4.heap.size := (by have := hb4.size; first | omega | (simp at this; omega))))
  have HZ1 := Lib.hid (blk_below (blk_below (blk_below (blk_below HZ0.out hb1 (by first | (simp; done) | omega | (simp; omega))) hb2 (by first | (simp; done) | omega | (simp; omega))) hb3 (by first | (simp; done) | omega | (simp; omega))) hb4 (by first | (simp; done) | omega | (simp; omega)))
  have hzw : w.heap.size + 1 + 1 < w4.heap.size := by omega
  have HBF := Lib.hid hB4
  clear hc4 hf4 hb4 hB4 hc3 hf3 hb3 hB3 hc2 hf2 hb2 hB2 hc1 hf1 hb1 hB1
  obtain ⟨z0, z1, z2, zf⟩ := blk3 HZ1.out
  obtain ⟨s0, s1, s2⟩ := res3 HZ1.out (.int .i64 0) (.int .i64 0) (.slice none 0 0)
  go_wp2_with fail
  (try simp only [Exit.inBlock, Exit.then]); refine bodyPost_ret (by simp [results, Try.results30, go_sem, s0, s1, s2]; try rfl) rfl ?_
  exact ⟨_, rfl, Own.nil, HBF.out.trans (by (repeat (first | (with_reducible assumption) | (with_reducible exact Below.refl _ _) | (with_reducible refine below_drewN' ?_ _) | (with_reducible refine Below.drew ?_) | ((with_reducible refine Below.alloc ?_ ?_ _); rotate_left; focus (first | (simp; done) | (simp; omega) | omega)) | ((with_reducible refine Below.setCell ?_ ?_ _); rotate_left; focus (first | (simp; done) | (simp; omega) | omega)))))⟩
set_option maxRecDepth 20000 in
set_option maxHeartbeats 8000000 in
theorem sPrintGrid_e (R C : Int) (A : Option Addr) (n cp : Nat) (xs : List Int) (p t q d l : Int) (w : World) (B : Nat) (hr : RI w B A n xs) (hB : B ≤ w.heap.size) (hn : n ≤ 1000000000000000) (h1 : gridB R C xs = true) (h2 : prnB p t q 0 d l = true) (h3 : posB xs = true) (h4 : psK R C p t q 0 d l = 0) :
    Calls Try.prog 30 #[.agg #[.int .i64 R, .int .i64 C, .slice A n cp], .agg #[.int .i64 p, .int .i64 t, .int .i64 q, .int .i64 0, .int .i64 d, .int .i64 l]] w fun e w' => ∃ v, e = .returned (.tuple #[.agg #[.int .i64 ((R + 2 * q) * t), .int .i64 ((C + 2 * q) * p), v], .int .i64 0]) ∧ Own w' w.heap.size v (grdL ((R + 2 * q) * t).toNat ((C + 2 * q) * p).toNat (pixV R C xs p.toNat t.toNat q.toNat d l)) ∧ Below w.heap.size w w' := by
  have HA := Lib.hid (fun (w' : World) (hb : Below w.heap.size w w') => sIsGrid_any R C A n cp xs w' w.heap.size ((hr.more hB).below hb) hb.size hn)
  have HPR := Lib.hid (fun w => sIsPrint_any p t q 0 d l w)
  have HK := Lib.hid (fun (w' : World) (hb : Below w.heap.size w w') => l16Known_any R C A n cp xs w' w.heap.size ((hr.more hB).below hb) hb.size hn)
  have HS := Lib.hid (fun w => sPrintSize_any R C p t q 0 d l w)
  rw [h1] at HA
  rw [h2] at HPR
  rw [h1, h3] at HK
  rw [h4] at HS
  obtain ⟨y1, y2, y3, y4, y5⟩ := gridB_true h1
  obtain ⟨x1, x2, x3, x4, x5, x6, x7⟩ := prnB_true h2
  obtain ⟨b1, b2, b3⟩ := psK_0 h4
  have u1 := prt_bd b1 x3 x2
  have u2 := prt_bd b2 x3 x1
  obtain ⟨g1, g2, g3⟩ := rszB_true b3
  have hnl : (n : Int) = R * C := by rw [← hr.len]; exact y4
  obtain ⟨p, rfl⟩ := Int.eq_ofNat_of_zero_le (show 0 ≤ p by omega)
  obtain ⟨t, rfl⟩ := Int.eq_ofNat_of_zero_le (show 0 ≤ t by omega)
  obtain ⟨q, rfl⟩ := Int.eq_ofNat_of_zero_le (show 0 ≤ q by omega)
  obtain ⟨H, hH⟩ := Int.eq_ofNat_of_zero_le (show 0 ≤ (R + 2 * (q : Int)) * t by omega)
  obtain ⟨V, hV⟩ := Int.eq_ofNat_of_zero_le (show 0 ≤ (C + 2 * (q : Int)) * p by omega)
  rw [hH, hV] at g3
  rw [hH] at g1
  rw [hV] at g2
  have hHV : H * V ≤ 40000 := by rw [← Int.natCast_mul] at g3; omega
  simp only [hH, hV, gK_0] at HS ⊢
  simp only [Int.toNat_natCast]
  have HPX := Lib.hid (fun (i j : Nat) (hi : i < H) (hj : j < V) (w' : World) (hb : Below w.heap.size w w') => l21Pixel_any p t q d l R C A n cp xs i j w' w.heap.size ((hr.more hB).below hb) hb.size hnl (by omega) y1 y2 (by omega) (by omega) (by omega) (by omega) (by omega))
  obtain ⟨f, hf⟩ : ∃ f : Nat → Nat → Int, f = pixV R C xs p t q d l := ⟨_, rfl⟩
  obtain ⟨D, hD⟩ : ∃ D : Nat → Nat → Bool, D = fun i j => dkB R C xs (((i / t : Nat) : Int) - (q : Int)) (((j / p : Nat) : Int) - (q : Int)) := ⟨_, rfl⟩
  have HFD : Hid (∀ i j, f i j = if D i j then d else l) := Lib.hid (fun i j => by rw [hf, hD]; rfl)
  have HPX' : Hid (∀ i j : Nat, i < H → j < V → ∀ w', Below w.heap.size w w' → Calls Try.prog 74 #[.agg #[.int .i64 R, .int .i64 C, .slice A n cp], .agg #[.int .i64 p, .int .i64 t, .int .i64 q, .int .i64 0, .int .i64 d, .int .i64 l], .int .i64 i, .int .i64 j] w' fun e w'' => e = .returned (.bool (D i j)) ∧ Below w'.heap.size w' w'') := Lib.hid (fun i j hi hj w' hb => by rw [hD]; exact HPX.out i j hi hj w' hb)
  rw [← hf]
  obtain ⟨i0, hi⟩ := info_own' info_i64s
  have HI := Lib.hid (And.intro i0.bytes.le_refl hi)
  clear hi hf hD HPX
  obtain ⟨N, hN⟩ : ∃ N, N = H * V := ⟨_, rfl⟩
  have HN := Lib.hid hN
  have hNb : N ≤ 40000 := by omega
  have hGl : Hid ((grdL H V f).length = N) := Lib.hid ((grdL_len H V f).trans hN.symm)
  clear hr h1 h2 h3 h4 y1 y2 y3 y4 y5 x1 x2 x3 x4 x5 x6 x7 b1 b2 b3 u1 u2 hnl hH hV hHV hN
  have HZ0 : Hid ((((w.alloc (.cells #[.int .i64 R, .int .i64 C, .slice A n cp] 41)).alloc (.cells #[.int .i64 p, .int .i64 t, .int .i64 q, .int .i64 0, .int .i64 d, .int .i64 l] 53)).alloc (.cells #[.int .i64 0, .int .i64 0, .slice none 0 0] 32)).heap[w.heap.size + 1 + 1]? = some (.cells #[.int .i64 0, .int .i64 0, .slice none 0 0] 32 (0, 0))) := Lib.hid (heap_alloc_at (by simp))
  have HG0 : Hid ((((w.alloc (.cells #[.int .i64 R, .int .i64 C, .slice A n cp] 41)).alloc (.cells #[.int .i64 p, .int .i64 t, .int .i64 q, .int .i64 0, .int .i64 d, .int .i64 l] 53)).alloc (.cells #[.int .i64 0, .int .i64 0, .slice none 0 0] 32)).heap[w.heap.size]? = some (.cells #[.int .i64 R, .int .i64 C, .slice A n cp] 41 (0, 0))) := Lib.hid (blk_alloc (blk_alloc (heap_alloc_new _ _) (by simp)) (by simp; omega))
  have HP0 : Hid ((((w.alloc (.cells #[.int .i64 R, .int .i64 C, .slice A n cp] 41)).alloc (.cells #[.int .i64 p, .int .i64 t, .int .i64 q, .int .i64 0, .int .i64 d, .int .i64 l] 53)).alloc (.cells #[.int .i64 0, .int .i64 0, .slice none 0 0] 32)).heap[w.heap.size + 1]? = some (.cells #[.int .i64 p, .int .i64 t, .int .i64 q, .int .i64 0, .int .i64 d, .int .i64 l] 53 (0, 0))) := Lib.hid (blk_alloc (heap_alloc_at (by simp)) (by simp))
  go_enter Try.func30, Try.ntmps30
  go_upto_region 8 with (first | (go_at_call 70; go_call (HA.out _ (by (repeat (first | (with_reducible assumption) | (with_reducible exact Below.refl _ _) | (with_reducible refine below_drewN' ?_ _) | (with_reducible refine Below.drew ?_) | ((with_reducible refine Below.alloc ?_ ?_ _); rotate_left; focus (first | (simp; done) | (simp; omega) | omega)) | ((with_reducible refine Below.setCell ?_ ?_ _); rotate_left; focus (first | (simp; done) | (simp; omega) | omega)))))) as e1 w1 ⟨rfl, hb1⟩; obtain ⟨hc1, hf1⟩ := bcell hb1; have hB1 : Below w.heap.size w w1 := (below_then (by first | (go_grown; done) | (repeat (first | (with_reducible assumption) | (with_reducible exact Below.refl _ _) | (with_reducible refine below_drewN' ?_ _) | (with_reducible refine Below.drew ?_) | ((with_reducible refine Below.alloc ?_ ?_ _); rotate_left; focus (first | (simp; done) | (simp; omega) | omega)) | ((with_reducible refine Below.setCell ?_ ?_ _); rotate_left; focus (first | (simp; done) | (simp; omega) | omega))))) (by first | omega | (simp; done) | (simp; omega)) hb1); have hz1a : w.heap.size < w1.heap.size := (by have := hb1.size; first | omega | (simp at this; omega)); have hz1b : w.heap.size + 1 < w1.heap.size := (by have := hb1.size; first | omega | (simp at this; omega)); have hz1c : w.heap.size + 1 + 1 < w1.heap.size := (by have := hb1.size; first | omega | (simp at this; omega))) | (go_at_call 71; go_call (HPR.out _) as e2 w2 ⟨rfl, hb2⟩; obtain ⟨hc2, hf2⟩ := bcell hb2; have hB2 : Below w.heap.size w w2 := (below_then (by first | (go_grown; done) | (repeat (first | (with_reducible assumption) | (with_reducible exact Below.refl _ _) | (with_reducible refine below_drewN' ?_ _) | (with_reducible refine Below.drew ?_) | ((with_reducible refine Below.alloc ?_ ?_ _); rotate_left; focus (first | (simp; done) | (simp; omega) | omega)) | ((with_reducible refine Below.setCell ?_ ?_ _); rotate_left; focus (first | (simp; done) | (simp; omega) | omega))))) (by first | omega | (simp; done) | (simp; omega)) hb2); have hz2a : w.heap.size < w2.heap.size := (by have := hb2.size; first | omega | (simp at this; omega)); have hz2b : w.heap.size + 1 < w2.heap.size := (by have := hb2.size; first | omega | (simp at this; omega)); have hz2c : w.heap.size + 1 + 1 < w2.heap.size := (by have := hb2.size; first | omega | (simp at this; omega))) | (go_at_call 72; go_call (HK.out _ (by (repeat (first | (with_reducible assumption) | (with_reducible exact Below.refl _ _) | (with_reducible refine below_drewN' ?_ _) | (with_reducible refine Below.drew ?_) | ((with_reducible refine Below.alloc ?_ ?_ _); rotate_left; focus (first | (simp; done) | (simp; omega) | omega)) | ((with_reducible refine Below.setCell ?_ ?_ _); rotate_left; focus (first | (simp; done) | (simp; omega) | omega)))))) as e3 w3 ⟨rfl, hb3⟩; obtain ⟨hc3, hf3⟩ := bcell hb3; have hB3 : Below w.heap.size w w3 := (below_then (by first | (go_grown; done) | (repeat (first | (with_reducible assumption) | (with_reducible exact Below.refl _ _) | (with_reducible refine below_drewN' ?_ _) | (with_reducible refine Below.drew ?_) | ((with_reducible refine Below.alloc ?_ ?_ _); rotate_left; focus (first | (simp; done) | (simp; omega) | omega)) | ((with_reducible refine Below.setCell ?_ ?_ _); rotate_left; focus (first | (simp; done) | (simp; omega) | omega))))) (by first | omega | (simp; done) | (simp; omega)) hb3); have hz3a : w.heap.size < w3.heap.size := (by have := hb3.size; first | omega | (simp at this; omega)); have hz3b : w.heap.size + 1 < w3.heap.size := (by have := hb3.size; first | omega | (simp at this; omega)); have hz3c : w.heap.size + 1 + 1 < w3.heap.size := (by have := hb3.size; first | omega | (simp at this; omega))) | (go_at_call 73; go_call (HS.out _) as e4 w4 ⟨rfl, hb4⟩; obtain ⟨hc4, hf4⟩ := bcell hb4; have hB4 : Below w.heap.size w w4 := (below_then (by first | (go_grown; done) | (repeat (first | (with_reducible assumption) | (with_reducible exact Below.refl _ _) | (with_reducible refine below_drewN' ?_ _) | (with_reducible refine Below.drew ?_) | ((with_reducible refine Below.alloc ?_ ?_ _); rotate_left; focus (first | (simp; done) | (simp; omega) | omega)) | ((with_reducible refine Below.setCell ?_ ?_ _); rotate_left; focus (first | (simp; done) | (simp; omega) | omega))))) (by first | omega | (simp; done) | (simp; omega)) hb4); have hz4a : w.heap.size < w4.heap.size := (by have := hb4.size; first | omega | (simp at this; omega)); have hz4b : w.heap.size + 1 < w4.heap.size := (by have := hb4.size; first | omega | (simp at this; omega)); have hz4c : w.heap.size + 1 + 1 < w4.heap.size := (by have := hb4.size; first | omega | (simp at this; omega))))
  have HZ4 := Lib.hid (blk_below (blk_below (blk_below (blk_below HZ0.out hb1 (by simp)) hb2 (by omega)) hb3 (by omega)) hb4 (by omega))
  have HG4 := Lib.hid (blk_below (blk_below (blk_below (blk_below HG0.out hb1 (by first | (simp; done) | (simp; omega))) hb2 (by omega)) hb3 (by omega)) hb4 (by omega))
  have HP4 := Lib.hid (blk_below (blk_below (blk_below (blk_below HP0.out hb1 (by first | (simp; done) | (simp; omega))) hb2 (by omega)) hb3 (by omega)) hb4 (by omega))
  have HW := Lib.hid hB4
  have hs4 : w.heap.size + 1 + 1 < w4.heap.size := by omega
  clear hc1 hf1 hb1 hB1 hc2 hf2 hb2 hB2 hc3 hf3 hb3 hB3 hc4 hf4 hb4 hB4
  have HE : Hid (Own (w4.alloc (.cells #[] 2)) w4.heap.size (.slice (some ⟨w4.heap.size, 0, none⟩) 0 0) []) := Lib.hid (by
    have := World.ownsRow_made (e := 2) (size := 1) (base := w4.heap.size) w4 #[] 0 (Nat.le_refl _) (by unfold maxLen; omega) rfl
    simpa [Own] using this)
  go_wp2_with fail
  go_loopw [9, 10] (fun out row wr => ∃ k : Nat, k ≤ H ∧ row = .int .i64 k ∧ Hid (Own wr w4.heap.size out ((grdL H V f).take (k * V))) ∧ Hid (Below w4.heap.size w4 wr))
    (fun _ row _ => H - (intOf row).toNat)
  case atStart => exact ⟨0, Nat.zero_le _, rfl, Lib.hid (by simpa using HE.out), Lib.hid ((Below.refl _ _).alloc (Nat.le_refl _) _)⟩
  case round =>
    obtain ⟨k, hk, rfl, hown0, hbel0⟩ := hrel
    by_cases hlt : k < H
    · have hki : (k : Int) < (H : Int) := by omega
      go_wp2_with fail
      go_loopw [9, 11, 12] (fun out col gy wr => ∃ j : Nat, j ≤ V ∧ col = .int .i64 j ∧ Hid (Own wr w4.heap.size out ((grdL H V f).take (k * V + j))) ∧ Hid (Below w4.heap.size w4 wr))
        (fun _ col _ _ => V - (intOf col).toNat)
      case atStart => exact ⟨0, Nat.zero_le _, rfl, hown0, hbel0⟩
      case round =>
        rename World => wo
        obtain ⟨j, hj, rfl, hown, hbel⟩ := hrel
        by_cases hlt2 : j < V
        · have hji : (j : Int) < (V : Int) := by omega
          have hszo := hbel.out.size
          have hBo : Below w.heap.size w wo := HW.out.trans (hbel.out.mono (by omega))
          have hst := grdL_nth (f := f) hlt hlt2
          have hlen : k * V + j < (grdL H V f).length := by rw [grdL_len]; exact cell_lt2 hlt hlt2
          have htk := take_nth hlen
          rw [hst] at htk
          have HT0 := Lib.hid htk
          have HL : Hid (((grdL H V f).take (k * V + j)).length ≤ 40000) := Lib.hid (by rw [List.length_take, hGl.out]; omega)
          have HFK := Lib.hid (fun w' hb => HPX'.out k j hlt hlt2 w' hb)
          have HFV := Lib.hid (HFD.out k j)
          have hGo := blk_below HG4.out hbel.out (by omega)
          have hPo := blk_below HP4.out hbel.out (by omega)
          obtain ⟨a0, a1, a2, -⟩ := blk3 hGo
          obtain ⟨q0, q1, q2, q3, q4, q5, -⟩ := blk6p hPo
          have HPO := Lib.hid hPo
          have hzo : w.heap.size + 1 < wo.heap.size := by omega
          clear hst hlen htk hGo hPo
          generalize f k j = FV at *
          generalize D k j = DV at *
          cases DV
          all_goals
            go_wp2_with fail
            (go_at_call 74; go_call (HFK.out _ (by (repeat (first | (with_reducible assumption) | (with_reducible exact Below.refl _ _) | (with_reducible refine below_drewN' ?_ _) | (with_reducible refine Below.drew ?_) | ((with_reducible refine Below.alloc ?_ ?_ _); rotate_left; focus (first | (simp; done) | (simp; omega) | omega)) | ((with_reducible refine Below.setCell ?_ ?_ _); rotate_left; focus (first | (simp; done) | (simp; omega) | omega)))))) as e5 w5 ⟨rfl, hb5⟩; obtain ⟨hc5, hf5⟩ := bcell hb5; have hB5 : Below w.heap.size w w5 := (below_then (by first | (go_grown; done) | (repeat (first | (with_reducible assumption) | (with_reducible exact Below.refl _ _) | (with_reducible refine below_drewN' ?_ _) | (with_reducible refine Below.drew ?_) | ((with_reducible refine Below.alloc ?_ ?_ _); rotate_left; focus (first | (simp; done) | (simp; omega) | omega)) | ((with_reducible refine Below.setCell ?_ ?_ _); rotate_left; focus (first | (simp; done) | (simp; omega) | omega))))) (by first | omega | (simp; done) | (simp; omega)) hb5); have hz5a : w.heap.size < w5.heap.size := (by have := hb5.size; first | omega | (simp at this; omega)); have hz5b : w.heap.size + 1 < w5.heap.size := (by have := hb5.size; first | omega | (simp at this; omega)))
            obtain ⟨c0, c1, c2, c3, c4, c5, -⟩ := blk6p (blk_below HPO.out hb5 (by omega))
            have ho1 := Lib.hid (hown.out.keep hb5)
            have hs1 : Hid (w4.heap.size ≤ w5.heap.size) := Lib.hid (by have := hb5.size; omega)
            have hBe : Hid (Below w4.heap.size w4 w5) := Lib.hid (hbel.out.trans (hb5.mono (by omega)))
            clear hc5 hf5 hb5 hB5 hBo a0 a1 a2 q0 q1 q2 q3 q4 q5
            have hLL := HL.out
            have hfv := HFV.out
            simp only [if_true, if_false, Bool.false_eq_true] at hfv
            subst hfv
            go_wp2_with (at_builtin; refine wpList_append_own _ rfl _ _ 22 rfl (w4.heap.size) 2 i0 (.int .i64 0) 1 8 Try.underlying22 HI.out.2.1 HI.out.2.2.1 HI.out.2.2.2.1 HI.out.2.2.2.2 rfl (by decide) _ _ _ rfl (Own.alloc ho1.out _) ⟨w5.heap.size, 0, none⟩ 1 1 [.int .i64 (FV)] rfl rfl (cell_one_new _ _ _) (one_ok _) (own_max ho1.out (by omega)) (own_bytes ho1.out (by omega)) (own_base hs1.out) ?_; intro va wa howna hgrowa _; have hoa := Lib.hid (Own.snoc howna); have hga := Lib.hid hgrowa; clear howna hgrowa)
            go_roundw
            case rel => exact ⟨j + 1, by omega, by go_num, Lib.hid (by have := hoa.out; rw [show k * V + (j + 1) = k * V + j + 1 from rfl, HT0.out]; exact this), Lib.hid (Own.below_grown ho1.out hBe.out hs1.out hga.out)⟩
            case measure => simp [intOf]; omega
        · have hjn : j = V := by omega
          have hji : ¬ ((j : Int) < (V : Int)) := by omega
          go_wp2_with fail
          go_roundw
          case rel => exact ⟨k + 1, by omega, by go_num, Lib.hid (by have := hown.out; rwa [show k * V + j = (k + 1) * V from by rw [hjn, Nat.add_mul, Nat.one_mul]] at this), hbel⟩
          case measure => simp [intOf]; omega
    · have hkn : k = H := by omega
      have hki : ¬ ((k : Int) < (H : Int)) := by omega
      have hof := hown0.out
      rw [List.take_of_length_le (by rw [hGl.out, hkn, HN.out]; exact Nat.le_refl _)] at hof
      have HO := Lib.hid hof
      have HBF : Hid (Below w.heap.size w wr) := Lib.hid (HW.out.trans (hbel0.out.mono (by omega)))
      have hzr : w.heap.size + 1 + 1 < w4.heap.size := hs4
      have HZr := blk_below HZ4.out hbel0.out hs4
      obtain ⟨A2, c2', rfl, hr2⟩ := hof.shape
      rw [hGl.out] at HO ⊢
      obtain ⟨z0, z1, z2, zf⟩ := blk3 HZr
      obtain ⟨s0, s1, s2⟩ := res3 HZr (.int .i64 H) (.int .i64 V) (.slice A2 N c2')
      clear hof hr2 HZr hown0 hbel0
      go_wp2_with fail
      (try simp only [Exit.inBlock, Exit.then]); refine bodyPost_ret (by simp [results, Try.results30, go_sem, s0, s1, s2]; try rfl) rfl ?_
      exact ⟨_, rfl, ((((HO.out.setLt hs4 _).setLt hs4 _).setLt hs4 _)).more (by omega), HBF.out.trans (by (repeat (first | (with_reducible assumption) | (with_reducible exact Below.refl _ _) | (with_reducible refine below_drewN' ?_ _) | (with_reducible refine Below.drew ?_) | ((with_reducible refine Below.alloc ?_ ?_ _); rotate_left; focus (first | (simp; done) | (simp; omega) | omega)) | ((with_reducible refine Below.setCell ?_ ?_ _); rotate_left; focus (first | (simp; done) | (simp; omega) | omega)))))⟩
theorem sPrintGrid_any (R C : Int) (A : Option Addr) (n cp : Nat) (xs : List Int) (p t q d l : Int) (w : World) (B : Nat) (hr : RI w B A n xs) (hB : B ≤ w.heap.size) (hn : n ≤ 1000000000000000) :
    Calls Try.prog 30 #[.agg #[.int .i64 R, .int .i64 C, .slice A n cp], .agg #[.int .i64 p, .int .i64 t, .int .i64 q, .int .i64 0, .int .i64 d, .int .i64 l]] w fun e w' => ∃ v, e = .returned (.tuple #[.agg #[.int .i64 (gK (prK R C xs p t q d l) ((R + 2 * q) * t)), .int .i64 (gK (prK R C xs p t q d l) ((C + 2 * q) * p)), v], .int .i64 (prK R C xs p t q d l)]) ∧ Own w' w.heap.size v (prL R C xs p t q d l) ∧ Below w.heap.size w w' := by
  unfold prL prK
  cases h1 : gridB R C xs
  · simpa [gK] using sPrintGrid_a R C A n cp xs p t q d l w B hr hB hn h1
  cases h2 : prnB p t q 0 d l
  · simpa [gK] using sPrintGrid_b R C A n cp xs p t q d l w B hr hB hn h1 h2
  cases h3 : posB xs
  · simpa [gK] using sPrintGrid_c R C A n cp xs p t q d l w B hr hB hn h1 h2 h3
  by_cases h4 : psK R C p t q 0 d l = 0
  · simpa [gK, h4] using sPrintGrid_e R C A n cp xs p t q d l w B hr hB hn h1 h2 h3 h4
  · simpa [gK, h4] using sPrintGrid_d R C A n cp xs p t q d l w B hr hB hn h1 h2 h3 h4

end Go.Proofs.Ytflpllmbpfdnjaa
