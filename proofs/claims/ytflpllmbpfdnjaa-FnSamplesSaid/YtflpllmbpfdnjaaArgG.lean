/-
  Arguments that are structs of two numbers and a slice of numbers (grids, rasters), opened. The laws' own words on grids.
-/
import Derived.Test.YtflpllmbpfdnjaaArgS
import Derived.Test.YtflpllmbpfdnjaaToS
import Derived.Test.YtflpllmbpfdnjaaBlk
import Derived.Lib.SmallJoins
namespace Go.Proofs.Ytflpllmbpfdnjaa
open Go.ChangeShapes Go.WideShapes Go.ChangeAt Go.RowKit Go.Deep

theorem wf_i64 {n : Int} (h : (Lit.int .i64 n).wf = true) : -9223372036854775808 ≤ n ∧ n ≤ 9223372036854775807 := by
  have h1 : IntKind.i64.min = -9223372036854775808 := rfl
  have h2 : IntKind.i64.max = 9223372036854775807 := rfl
  simp only [Lit.wf, Bool.and_eq_true, decide_eq_true_eq] at h
  omega
/-- The cell of a slice of numbers that came in reads as its numbers. -/
theorem cell_ints {H : Type} {enc : TypeId × Value → H} {P : Program} {W : World} {fuel : Nat} {t e : TypeId} {cs : List Value} {y : DataW H × List MemPlace}
    (ht : P.underlying t = some (.slice e)) (he : P.underlying e = some (.int .i64)) (hc : P.cellsOf e = 1) (hf : DataW.trod enc P W 0 (fun _ => true) true fuel t cs = some y) (_ : ∀ x ∈ y.2, x.block < W.heap.size) :
    ∃ A n c xs, cs = [.slice A n c] ∧ RI W W.heap.size A n xs ∧ n ≤ 9223372036854775807 ∧ ∀ x ∈ xs, -9223372036854775808 ≤ x ∧ x ≤ 9223372036854775807 := by
  rcases open_ints ht he hc hf with ⟨rfl, hx⟩ | ⟨a, len', cap', zs, rfl, _, hl, hm, hz, hx, hcell, hwz⟩
  · exact ⟨none, 0, 0, [], rfl, RI.nil, by omega, fun x hx => by cases hx⟩
  · simp only [if_true] at hz
    unfold maxLen at hm
    refine ⟨some a, len', cap', zs.take len', rfl, ⟨by rw [List.length_take]; omega, fun hn => ?_⟩, by omega, fun x hx => wf_i64 (hwz x (List.mem_of_mem_take hx))⟩
    have h0 := hcell 0 (by omega)
    have hadd : a.add 0 = a := by unfold Addr.add; simp
    rw [hadd] at h0
    have hs := spot_none h0
    refine ⟨a.block, a.off, by rw [← hs], World.block_lt_of_cell? W a h0, fun k hk => ?_⟩
    have hk' := hcell k (by omega)
    have e1 : a.add k = ⟨a.block, a.off + k, none⟩ := by
      rw [hs]; unfold Addr.add; split
      · rename_i h; subst h; rfl
      · rfl
    rw [e1] at hk'
    rw [hk']
    unfold nth
    simp [hk]
theorem arg_grid {H : Type} {enc : TypeId × Value → H} {P : Program} {W : World} {r : Reach} {base : Nat} {t e : TypeId} {f0 f1 f2 : Field} {v : Value} {d : DataW H} {p : List MemPlace}
    (hs : P.underlying t = some (.struct #[f0, f1, f2])) (hone : oneCellFields P #[f0, f1, f2] = true) (hC : P.cellsOf t = 3)
    (h0 : P.underlying f0.type = some (.int .i64)) (h1 : P.underlying f1.type = some (.int .i64)) (ht : P.underlying f2.type = some (.slice e)) (he : P.underlying e = some (.int .i64)) (hc : P.cellsOf e = 1)
    (hv : Value.okWide P W r base t v) (h : DataW.Trod enc P W 0 (fun _ => true) true t v d p) (hlt : ∀ x ∈ p, x.block < W.heap.size) :
    ∃ (a b : Int) (A : Option Addr) (n c : Nat) (xs : List Int), v = .agg #[.int .i64 a, .int .i64 b, .slice A n c] ∧ (-9223372036854775808 ≤ a ∧ a ≤ 9223372036854775807) ∧ (-9223372036854775808 ≤ b ∧ b ≤ 9223372036854775807) ∧
      RI W W.heap.size A n xs ∧ n ≤ 9223372036854775807 ∧ ∀ x ∈ xs, -9223372036854775808 ≤ x ∧ x ≤ 9223372036854775807 := by
  obtain ⟨v0, v1, v2, y0, y1, y2, m, rfl, rfl, rfl, g0, g1, g2⟩ := Go.Joins.open_agg3 hs hone hC hv h
  obtain ⟨a, ha, _, hwa⟩ := DataW.trod_int h0 g0
  obtain ⟨b, hb, _, hwb⟩ := DataW.trod_int h1 g1
  obtain ⟨A, n, c, xs, hcs, hr, hn, hx⟩ := cell_ints ht he hc g2 (fun x hx => hlt x (by simp [hx]))
  simp only [List.cons.injEq, and_true] at ha hb hcs
  subst ha hb hcs
  exact ⟨a, b, A, n, c, xs, rfl, wf_i64 hwa, wf_i64 hwb, hr, hn, hx⟩
theorem eqGrid_same (r c : Int) (A1 A2 : Option Addr) (n c1 c2 : Nat) (xs : List Int) (w : World) (B1 B2 : Nat) (hr1 : RI w B1 A1 n xs) (hr2 : RI w B2 A2 n xs) (hB1 : B1 ≤ w.heap.size) (hB2 : B2 ≤ w.heap.size) (hn : n ≤ 1000000000000) :
    Calls Try.prog 19 #[.agg #[.int .i64 r, .int .i64 c, .slice A1 n c1], .agg #[.int .i64 r, .int .i64 c, .slice A2 n c2]] w fun e w' => e = .returned (.bool true) ∧ Below w.heap.size w w' := by
  have HE := Lib.hid (fun (w' : World) (hb : Below w.heap.size w w') => eqInt64S_any A1 A2 n n c1 c2 xs xs w' w.heap.size w.heap.size ((hr1.more hB1).below hb) ((hr2.more hB2).below hb) hn hn)
  have hx : (xs == xs) = true := by simp
  have hr0 : (r != r) = false := by simp
  have hc0 : (c != c) = false := by simp
  clear hr1 hr2
  rw [hx] at HE
  clear hx
  go_enter Try.func19, Try.ntmps19
  go_wp2_with (go_at_call 50; refine (HE.out _ (by go_grown)).mono ?_; rintro e1 w1 ⟨rfl, m1, rfl⟩)
  go_ret
  exact ⟨rfl, below_drewN' (by go_grown) _⟩
theorem grown_trans' {a b c : World} {r : Option Nat} (h : a.grownBy b r) (k : b.grownBy c r) : a.grownBy c r :=
  ⟨k.os.trans h.os, k.tape.trans h.tape, k.output.trans h.output, Nat.le_trans h.size k.size, fun j hj hne => (k.block j (Nat.lt_of_lt_of_le hj h.size) hne).trans (h.block j hj hne)⟩
theorem grown_alloc' {a w : World} {r : Option Nat} (h : a.grownBy w r) (o : Obj) : a.grownBy (w.alloc o) r :=
  ⟨h.os, h.tape, h.output, by have := h.size; simp; omega, fun j hj hne => (Below.heap_alloc _ _ _ (by have := h.size; omega)).trans (h.block j hj hne)⟩
theorem markGrid_any (r c : Int) (v : Value) (xs : List Int) (m : Int) (w : World) (B : Nat) (ho : Own w B v xs) (hn : xs.length ≤ 1000000000000) (hm0 : 0 ≤ m) (hm1 : m ≤ 1000000000000) :
    Calls Try.prog 21 #[.agg #[.int .i64 r, .int .i64 c, v], .int .i64 m] w fun e w' => e = .returned (.int .i64 (m + xs.length)) ∧ Own w' B v (marks m xs.length) ∧ w.grownBy w' v.ownBlock := by
  have HE := Lib.hid (fun (w' : World) (ho' : Own w' B v xs) => markInt64S_any v xs m w' B ho' hn hm0 hm1)
  have HO := Lib.hid ho
  obtain ⟨A, cp, rfl, hr⟩ := ho.shape
  clear ho hr
  go_enter Try.func21, Try.ntmps21
  go_wp2_with (go_at_call 53; refine (HE.out _ (HO.out.keep (by go_grown))).mono ?_; rintro e1 w1 ⟨rfl, ho1, hg1⟩)
  go_ret
  exact ⟨rfl, ho1, grown_trans' (grown_alloc' (World.grownBy.refl _ _) _) hg1⟩
theorem heldGrid_any (r c : Int) (v : Value) (n : Nat) (m : Int) (w : World) (B : Nat) (ho : Own w B v (marks m n)) (hn : n ≤ 1000000000000) (hm0 : 0 ≤ m) (hm1 : m ≤ 1000000000000) :
    Calls Try.prog 22 #[.agg #[.int .i64 r, .int .i64 c, v], .int .i64 m] w fun e w' => e = .returned (.int .i64 (m + n)) ∧ Below w.heap.size w w' := by
  have HE := Lib.hid (fun (w' : World) (ho' : Own w' B v (marks m n)) => heldInt64S_any v n m w' B ho' hn hm0 hm1)
  have HO := Lib.hid ho
  obtain ⟨A, cp, rfl, hr⟩ := ho.shape
  rw [marks_len] at *
  clear ho hr
  go_enter Try.func22, Try.ntmps22
  go_wp2_with (go_at_call 54; refine (HE.out _ (HO.out.keep (by go_grown))).mono ?_; rintro e1 w1 ⟨rfl, rfl⟩)
  go_ret
  exact ⟨rfl, by go_grown⟩
theorem szInt64S_ok (A : Option Addr) (n cp m : Nat) (w : World) (hn : n ≤ m) (hm : m ≤ 1000000000) :
    Calls Try.prog 42 #[.slice A n cp, .int .i64 m] w fun e w' => e = .returned (.int .i64 (m - n : Nat)) ∧ w = w' := by
  go_enter Try.func42, Try.ntmps42
  go_wp2_with fail
  go_ret
  exact ⟨ret_int (by omega), rfl⟩
theorem szInt64S_no (A : Option Addr) (n cp m : Nat) (w : World) (hn : m < n) (hn2 : n ≤ 9223372036854775807) :
    Calls Try.prog 42 #[.slice A n cp, .int .i64 m] w fun e w' => e = .returned (.int .i64 (-1)) ∧ w = w' := by
  go_enter Try.func42, Try.ntmps42
  go_wp2_with fail
  go_ret
  exact ⟨rfl, rfl⟩
end Go.Proofs.Ytflpllmbpfdnjaa
