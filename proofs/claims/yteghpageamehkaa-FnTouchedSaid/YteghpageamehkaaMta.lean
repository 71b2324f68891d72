/-
  Lists of places that can be read: arguments, the laws' copy of them, the reference's word 'is one of them'.
-/
import Derived.Test.YteghpageamehkaaArgS
import Derived.Test.YteghpageamehkaaToS
import Derived.Test.YteghpageamehkaaBlk
import Derived.Lib.SmallJoins
import Derived.Test.YteghpageamehkaaTe
import Derived.Test.YteghpageamehkaaPlW
import Derived.Deep.SlicePairs
namespace Go.Proofs.Yteghpageamehkaa
open Go.ChangeShapes Go.WideShapes Go.ChangeAt Go.RowKit Go.Deep

theorem wf_i64 {n : Int} (h : (Lit.int .i64 n).wf = true) : -9223372036854775808 ≤ n ∧ n ≤ 9223372036854775807 := by
  have h1 : IntKind.i64.min = -9223372036854775808 := rfl
  have h2 : IntKind.i64.max = 9223372036854775807 := rfl
  simp only [Lit.wf, Bool.and_eq_true, decide_eq_true_eq] at h
  omega
/-- The cell of a slice of numbers that came in reads as its numbers. -/
theorem cell_ints {H : Type} {enc : TypeId × Value → H} {P : Program} {W : World} {fuel : Nat} {t e : TypeId} {cs : List Value} {y : DataW H × List MemPlace}
    (ht : P.underlying t = some (.slice e)) (he : P.underlying e = some (.int .i64)) (hc : P.cellsOf e = 1) (hf : DataW.trod enc P W 0 (fun _ => true) true fuel t cs = some y) (_ : ∀ x ∈ y.2, x.block < W.heap.size) :
    ∃ A n c xs, cs = [.slice A n c] ∧ RI W W.heap.size A n xs ∧ n ≤ 9223372036854775807 ∧ ∀ x ∈ xs, -9223372036854775808 ≤ x ∧ x ≤ 9223372036854775807 := by
  rcases open_ints ht he hc hf with ⟨rfl, hx⟩ | ⟨a, len', cap', zs, rfl, _, hl, hm, hz, hx, hcell, hwz⟩
  · exact ⟨none, 0, 0, [], rfl, RI.nil, by omega, fun x hx => by cases hx⟩
  · simp only [if_true] at hz
    unfold maxLen at hm
    refine ⟨some a, len', cap', zs.take len', rfl, ⟨by rw [List.length_take]; omega, fun hn => ?_⟩, by omega, fun x hx => wf_i64 (hwz x (List.mem_of_mem_take hx))⟩
    have h0 := hcell 0 (by omega)
    have hadd : a.add 0 = a := by unfold Addr.add; simp
    rw [hadd] at h0
    have hs := spot_none h0
    refine ⟨a.block, a.off, by rw [← hs], World.block_lt_of_cell? W a h0, fun k hk => ?_⟩
    have hk' := hcell k (by omega)
    have e1 : a.add k = ⟨a.block, a.off + k, none⟩ := by
      rw [hs]; unfold Addr.add; split
      · rename_i h; subst h; rfl
      · rfl
    rw [e1] at hk'
    rw [hk']
    unfold nth
    simp [hk]
theorem arg_grid {H : Type} {enc : TypeId × Value → H} {P : Program} {W : World} {r : Reach} {base : Nat} {t e : TypeId} {f0 f1 f2 : Field} {v : Value} {d : DataW H} {p : List MemPlace}
    (hs : P.underlying t = some (.struct #[f0, f1, f2])) (hone : oneCellFields P #[f0, f1, f2] = true) (hC : P.cellsOf t = 3)
    (h0 : P.underlying f0.type = some (.int .i64)) (h1 : P.underlying f1.type = some (.int .i64)) (ht : P.underlying f2.type = some (.slice e)) (he : P.underlying e = some (.int .i64)) (hc : P.cellsOf e = 1)
    (hv : Value.okWide P W r base t v) (h : DataW.Trod enc P W 0 (fun _ => true) true t v d p) (hlt : ∀ x ∈ p, x.block < W.heap.size) :
    ∃ (a b : Int) (A : Option Addr) (n c : Nat) (xs : List Int), v = .agg #[.int .i64 a, .int .i64 b, .slice A n c] ∧ (-9223372036854775808 ≤ a ∧ a ≤ 9223372036854775807) ∧ (-9223372036854775808 ≤ b ∧ b ≤ 9223372036854775807) ∧
      RI W W.heap.size A n xs ∧ n ≤ 9223372036854775807 ∧ ∀ x ∈ xs, -9223372036854775808 ≤ x ∧ x ≤ 9223372036854775807 := by
  obtain ⟨v0, v1, v2, y0, y1, y2, m, rfl, rfl, rfl, g0, g1, g2⟩ := Go.Joins.open_agg3 hs hone hC hv h
  obtain ⟨a, ha, _, hwa⟩ := DataW.trod_int h0 g0
  obtain ⟨b, hb, _, hwb⟩ := DataW.trod_int h1 g1
  obtain ⟨A, n, c, xs, hcs, hr, hn, hx⟩ := cell_ints ht he hc g2 (fun x hx => hlt x (by simp [hx]))
  simp only [List.cons.injEq, and_true] at ha hb hcs
  subst ha hb hcs
  exact ⟨a, b, A, n, c, xs, rfl, wf_i64 hwa, wf_i64 hwb, hr, hn, hx⟩
theorem toGrid_any (r c : Int) (A : Option Addr) (n cp : Nat) (xs : List Int) (w : World) (B : Nat) (hr : RI w B A n xs) (hB : B ≤ w.heap.size) (hn : n ≤ 1000000000000) :
    Calls Try.prog 35 #[.agg #[.int .i64 r, .int .i64 c, .slice A n cp]] w fun e w' => ∃ v', e = .returned (.agg #[.int .i64 r, .int .i64 c, v']) ∧ Own w' w.heap.size v' xs ∧ Below w.heap.size w w' := by
  have HT := Lib.hid (fun w' (hb : Below w.heap.size w w') => toInt64S_any A n cp xs w' w.heap.size ((hr.more hB).below hb) hb.size hn)
  clear hr
  go_enter Try.func35, Try.ntmps35
  go_wp2_with ((go_at_call 19; go_call (HT.out _ (by go_grown)) as e1 w1 ⟨v1, rfl, ho1, hb1⟩; obtain ⟨hc1, hf1⟩ := bcell hb1; have hB1 : Below w.heap.size w w1 := (below_then (by first | (go_grown; done) | (repeat (first | (with_reducible assumption) | (with_reducible exact Below.refl _ _) | (with_reducible refine below_drewN' ?_ _) | (with_reducible refine Below.drew ?_) | ((with_reducible refine Below.alloc ?_ ?_ _); rotate_left; focus (first | (simp; done) | (simp; omega) | omega)) | ((with_reducible refine Below.setCell ?_ ?_ _); rotate_left; focus (first | (simp; done) | (simp; omega) | omega))))) (by first | omega | (simp; done) | (simp; omega)) hb1); have hz1a : w.heap.size < w1.heap.size := (by have := hb1.size; first | omega | (simp at this; omega))); obtain ⟨A1, c1, rfl, hr1⟩ := ho1.shape; have HO := Lib.hid ho1; clear ho1 hr1)
  have hR : w1.heap[w.heap.size + 1]? = some (.cells #[.int .i64 0, .int .i64 0, .slice none 0 0] 37 (0, 0)) := by
    refine blk_below ?_ hb1 (by simp)
    (repeat (first | (with_reducible exact heap_alloc_new _ _) | (rw [heap_drew1]) | (rw [heap_drewN1]) | (rw [Below.heap_setCell _ _ _ _ (by first | omega | (simp; done) | (simp; omega))]) | (rw [Below.heap_alloc _ _ _ (by first | omega | (simp; done) | (simp; omega))]) | (exact heap_alloc_at (by first | omega | (simp; done) | (simp; omega)))))
  obtain ⟨s0, s1, s2⟩ := res3 (show (w1.setCell ⟨w.heap.size + 1 + 1, 2, none⟩ (.slice A1 xs.length c1)).heap[w.heap.size + 1]? = some (.cells #[.int .i64 0, .int .i64 0, .slice none 0 0] 37 (0, 0)) from by (repeat (first | (with_reducible exact hR) | (with_reducible exact heap_alloc_new _ _) | (rw [heap_drew1]) | (rw [heap_drewN1]) | (rw [Below.heap_setCell _ _ _ _ (by first | omega | (simp; done) | (simp; omega))]) | (rw [Below.heap_alloc _ _ _ (by first | omega | (simp; done) | (simp; omega))]) | (exact heap_alloc_at (by first | omega | (simp; done) | (simp; omega)))))) (.int .i64 r) (.int .i64 c) (.slice A1 xs.length c1)
  (try simp only [Exit.inBlock, Exit.then]); refine bodyPost_ret (by simp [results, Try.results35, go_sem, s0, s1, s2]; try rfl) rfl ?_
  exact ⟨_, rfl, ((((HO.out.setLt (by simp) _).setLt (by simp) _).setLt (by simp) _).setLt (by simp) _).more (by simp; omega), by (repeat (first | (with_reducible assumption) | (with_reducible exact Below.refl _ _) | (with_reducible refine below_drewN' ?_ _) | (with_reducible refine Below.drew ?_) | ((with_reducible refine Below.alloc ?_ ?_ _); rotate_left; focus (first | (simp; done) | (simp; omega) | omega)) | ((with_reducible refine Below.setCell ?_ ?_ _); rotate_left; focus (first | (simp; done) | (simp; omega) | omega))))⟩
theorem eqGrid_same (r c : Int) (A1 A2 : Option Addr) (n c1 c2 : Nat) (xs : List Int) (w : World) (B1 B2 : Nat) (hr1 : RI w B1 A1 n xs) (hr2 : RI w B2 A2 n xs) (hB1 : B1 ≤ w.heap.size) (hB2 : B2 ≤ w.heap.size) (hn : n ≤ 1000000000000) :
    Calls Try.prog 21 #[.agg #[.int .i64 r, .int .i64 c, .slice A1 n c1], .agg #[.int .i64 r, .int .i64 c, .slice A2 n c2]] w fun e w' => e = .returned (.bool true) ∧ Below w.heap.size w w' := by
  have HE := Lib.hid (fun (w' : World) (hb : Below w.heap.size w w') => eqInt64S_any A1 A2 n n c1 c2 xs xs w' w.heap.size w.heap.size ((hr1.more hB1).below hb) ((hr2.more hB2).below hb) hn hn)
  have hx : (xs == xs) = true := by simp
  have hr0 : (r != r) = false := by simp
  have hc0 : (c != c) = false := by simp
  clear hr1 hr2
  rw [hx] at HE
  clear hx
  go_enter Try.func21, Try.ntmps21
  go_wp2_with (go_at_call 22; refine (HE.out _ (by go_grown)).mono ?_; rintro e1 w1 ⟨rfl, m1, rfl⟩)
  go_ret
  exact ⟨rfl, below_drewN' (by go_grown) _⟩
theorem grown_trans' {a b c : World} {r : Option Nat} (h : a.grownBy b r) (k : b.grownBy c r) : a.grownBy c r :=
  ⟨k.os.trans h.os, k.tape.trans h.tape, k.output.trans h.output, Nat.le_trans h.size k.size, fun j hj hne => (k.block j (Nat.lt_of_lt_of_le hj h.size) hne).trans (h.block j hj hne)⟩
theorem grown_alloc' {a w : World} {r : Option Nat} (h : a.grownBy w r) (o : Obj) : a.grownBy (w.alloc o) r :=
  ⟨h.os, h.tape, h.output, by have := h.size; simp; omega, fun j hj hne => (Below.heap_alloc _ _ _ (by have := h.size; omega)).trans (h.block j hj hne)⟩
theorem markGrid_any (r c : Int) (v : Value) (xs : List Int) (m : Int) (w : World) (B : Nat) (ho : Own w B v xs) (hn : xs.length ≤ 1000000000000) (hm0 : 0 ≤ m) (hm1 : m ≤ 1000000000000) :
    Calls Try.prog 24 #[.agg #[.int .i64 r, .int .i64 c, v], .int .i64 m] w fun e w' => e = .returned (.int .i64 (m + xs.length)) ∧ Own w' B v (marks m xs.length) ∧ w.grownBy w' v.ownBlock := by
  have HE := Lib.hid (fun (w' : World) (ho' : Own w' B v xs) => markInt64S_any v xs m w' B ho' hn hm0 hm1)
  have HO := Lib.hid ho
  obtain ⟨A, cp, rfl, hr⟩ := ho.shape
  clear ho hr
  go_enter Try.func24, Try.ntmps24
  go_wp2_with (go_at_call 23; refine (HE.out _ (HO.out.keep (by go_grown))).mono ?_; rintro e1 w1 ⟨rfl, ho1, hg1⟩)
  go_ret
  exact ⟨rfl, ho1, grown_trans' (grown_alloc' (World.grownBy.refl _ _) _) hg1⟩
theorem heldGrid_any (r c : Int) (v : Value) (n : Nat) (m : Int) (w : World) (B : Nat) (ho : Own w B v (marks m n)) (hn : n ≤ 1000000000000) (hm0 : 0 ≤ m) (hm1 : m ≤ 1000000000000) :
    Calls Try.prog 25 #[.agg #[.int .i64 r, .int .i64 c, v], .int .i64 m] w fun e w' => e = .returned (.int .i64 (m + n)) ∧ Below w.heap.size w w' := by
  have HE := Lib.hid (fun (w' : World) (ho' : Own w' B v (marks m n)) => heldInt64S_any v n m w' B ho' hn hm0 hm1)
  have HO := Lib.hid ho
  obtain ⟨A, cp, rfl, hr⟩ := ho.shape
  rw [marks_len] at *
  clear ho hr
  go_enter Try.func25, Try.ntmps25
  go_wp2_with (go_at_call 32; refine (HE.out _ (HO.out.keep (by go_grown))).mono ?_; rintro e1 w1 ⟨rfl, rfl⟩)
  go_ret
  exact ⟨rfl, by go_grown⟩
theorem szInt64S_ok (A : Option Addr) (n cp m : Nat) (w : World) (hn : n ≤ m) (hm : m ≤ 1000000000) :
    Calls Try.prog 69 #[.slice A n cp, .int .i64 m] w fun e w' => e = .returned (.int .i64 (m - n : Nat)) ∧ w = w' := by
  go_enter Try.func69, Try.ntmps69
  go_wp2_with fail
  go_ret
  exact ⟨ret_int (by omega), rfl⟩
theorem szInt64S_no (A : Option Addr) (n cp m : Nat) (w : World) (hn : m < n) (hn2 : n ≤ 9223372036854775807) :
    Calls Try.prog 69 #[.slice A n cp, .int .i64 m] w fun e w' => e = .returned (.int .i64 (-1)) ∧ w = w' := by
  go_enter Try.func69, Try.ntmps69
  go_wp2_with fail
  go_ret
  exact ⟨rfl, rfl⟩
theorem szGrid_ok (r c : Int) (A : Option Addr) (n cp m : Nat) (w : World) (hn : n ≤ m) (hm : m ≤ 1000000000) :
    Calls Try.prog 33 #[.agg #[.int .i64 r, .int .i64 c, .slice A n cp], .int .i64 m] w fun e w' => e = .returned (.int .i64 (m - n : Nat)) ∧ Below w.heap.size w w' := by
  go_enter Try.func33, Try.ntmps33
  go_wp2_with (go_at_call 69; refine (szInt64S_ok _ _ _ _ _ hn hm).mono ?_; rintro e w' ⟨rfl, rfl⟩)
  go_ret
  exact ⟨rfl, by go_grown⟩
theorem szGrid_no (r c : Int) (A : Option Addr) (n cp m : Nat) (w : World) (hn : m < n) (hn2 : n ≤ 9223372036854775807) :
    Calls Try.prog 33 #[.agg #[.int .i64 r, .int .i64 c, .slice A n cp], .int .i64 m] w fun e w' => e = .returned (.int .i64 (-1)) ∧ Below w.heap.size w w' := by
  go_enter Try.func33, Try.ntmps33
  go_wp2_with (go_at_call 69; refine (szInt64S_no _ _ _ _ _ hn hn2).mono ?_; rintro e w' ⟨rfl, rfl⟩)
  go_ret
  exact ⟨rfl, by go_grown⟩
end Go.Proofs.Yteghpageamehkaa
namespace Go.Proofs.Yteghpageamehkaa
set_option linter.unusedSimpArgs false
open Go.ChangeShapes Go.WideShapes Go.ChangeAt Go.RowKit Go.Deep

/-- A slice of n places at A, below block B, reads as ps. -/
def RIP (w : World) (B : Nat) (A : Option Addr) (n : Nat) (ps : List (Int × Int)) : Prop :=
  ps.length = n ∧ (0 < n → ∃ b o, A = some ⟨b, o, none⟩ ∧ b < B ∧ ∀ k, k < n → w.cell? ⟨b, o + k * 2, none⟩ = some (.int .i64 (nthP ps k).1) ∧ w.cell? ⟨b, o + k * 2 + 1, none⟩ = some (.int .i64 (nthP ps k).2))
theorem RIP.len {w : World} {B n : Nat} {A : Option Addr} {ps : List (Int × Int)} (h : RIP w B A n ps) : ps.length = n := h.1
theorem RIP.cells {w : World} {B n : Nat} {A : Option Addr} {ps : List (Int × Int)} (h : RIP w B A n ps) (h0 : 0 < n) : ∃ b o, A = some ⟨b, o, none⟩ ∧ b < B ∧ ∀ k, k < n → w.cell? ⟨b, o + k * 2, none⟩ = some (.int .i64 (nthP ps k).1) ∧ w.cell? ⟨b, o + k * 2 + 1, none⟩ = some (.int .i64 (nthP ps k).2) := h.2 h0
theorem RIP.below {w w' : World} {B n : Nat} {A : Option Addr} {ps : List (Int × Int)} (h : RIP w B A n ps) (hb : Below B w w') : RIP w' B A n ps := by
  refine ⟨h.1, fun h0 => ?_⟩
  obtain ⟨b, o, rfl, hlt, hc⟩ := h.2 h0
  exact ⟨b, o, rfl, hlt, fun k hk => ⟨(hb.cell (p := ⟨b, o + k * 2, none⟩) hlt).trans (hc k hk).1, (hb.cell (p := ⟨b, o + k * 2 + 1, none⟩) hlt).trans (hc k hk).2⟩⟩
theorem RIP.more {w : World} {B B' n : Nat} {A : Option Addr} {ps : List (Int × Int)} (h : RIP w B A n ps) (hB : B ≤ B') : RIP w B' A n ps := by
  refine ⟨h.1, fun h0 => ?_⟩
  obtain ⟨b, o, rfl, hlt, hc⟩ := h.2 h0
  exact ⟨b, o, rfl, by omega, hc⟩
theorem RIP.nil {w : World} {B : Nat} : RIP w B none 0 [] := ⟨rfl, fun h => by omega⟩
theorem OwnP.rip {w : World} {B n c : Nat} {A : Option Addr} {ps : List (Int × Int)} (h : OwnP w B (.slice A n c) ps) (hl : ps.length = n) : RIP w w.heap.size A n ps := by
  subst hl
  refine ⟨rfl, fun h0 => ?_⟩
  obtain ⟨g, c', e, -, hlt, hc⟩ := h.cells h0
  simp only [Value.slice.injEq] at e
  obtain ⟨rfl, -, -⟩ := e
  exact ⟨g, 0, rfl, hlt, fun k hk => by have := hc k hk; simpa using this⟩
theorem nthP_mapr {x y : Nat → Int} {n k : Nat} (hk : k < n) : nthP ((List.range n).map fun i => (x i, y i)) k = (x k, y k) := by
  unfold nthP; simp [List.getD_eq_getElem?_getD, hk]
theorem arg_places {H : Type} {enc : TypeId × Value → H} {P : Program} {W : World} {r : Reach} {base : Nat} {t e : TypeId} {f0 f1 : Field} {v : Value} {d : DataW H} {p : List MemPlace}
    (ht : P.underlying t = some (.slice e)) (he : P.underlying e = some (.struct #[f0, f1])) (ce : P.cellsOf e = 2) (o0 : f0.offset = 0) (o1 : f1.offset = 1) (c0 : P.cellsOf f0.type = 1) (c1 : P.cellsOf f1.type = 1)
    (i0 : P.underlying f0.type = some (.int .i64)) (i1 : P.underlying f1.type = some (.int .i64))
    (hv : Value.okWide P W r base t v) (h : DataW.Trod enc P W 0 (fun _ => true) true t v d p) :
    ∃ A n c ps, v = .slice A n c ∧ RIP W W.heap.size A n ps ∧ n ≤ 9223372036854775807 ∧ ∀ q ∈ ps, (-9223372036854775808 ≤ q.1 ∧ q.1 ≤ 9223372036854775807) ∧ (-9223372036854775808 ≤ q.2 ∧ q.2 ≤ 9223372036854775807) := by
  obtain ⟨a0, n, c, rfl⟩ := okWide_slice ht hv
  obtain ⟨fuel, hf⟩ := h
  rcases open_slice_pairs ht he ce o0 o1 c0 c1 hf with ⟨hcs, hx⟩ | ⟨a, len, cap, m, n', V0, V1, D0, D1, P0, P1, hcs, _, hl, hm, hmm, hx, hcell⟩
  · simp [Value.cells] at hcs
    obtain ⟨rfl, rfl, rfl⟩ := hcs
    exact ⟨none, 0, 0, [], rfl, RIP.nil, by omega, fun q hq => by cases hq⟩
  · simp [Value.cells] at hcs
    obtain ⟨rfl, rfl, rfl⟩ := hcs
    simp only [if_true] at hmm
    rw [hmm] at hcell
    unfold maxLen at hm
    have each : ∀ i, i < n → ∃ z : Int × Int, W.cell? (a.add (i * 2)) = some (.int .i64 z.1) ∧ W.cell? (a.add (i * 2 + 1)) = some (.int .i64 z.2) ∧ (Lit.int .i64 z.1).wf = true ∧ (Lit.int .i64 z.2).wf = true := by
      intro i hi
      obtain ⟨h1, h2, h3, h4⟩ := hcell i (by omega)
      obtain ⟨x, hx, _, hwx⟩ := DataW.trod_int i0 h3
      obtain ⟨y, hy, _, hwy⟩ := DataW.trod_int i1 h4
      simp only [List.cons.injEq, and_true] at hx hy
      exact ⟨(x, y), by rw [h1, hx], by rw [h2, hy], hwx, hwy⟩
    obtain ⟨z, hz⟩ := choose_lt each
    refine ⟨some a, n, c, (List.range n).map fun i => ((z i).1, (z i).2), rfl, ⟨by simp, fun h0 => ?_⟩, by omega, fun q hq => ?_⟩
    · have h0' := (hz 0 h0).1
      have hadd : a.add (0 * 2) = a := by unfold Addr.add; simp
      rw [hadd] at h0'
      have hs := spot_none h0'
      refine ⟨a.block, a.off, by rw [← hs], World.block_lt_of_cell? W a h0', fun k hk => ?_⟩
      have e1 : ∀ j, a.add j = ⟨a.block, a.off + j, none⟩ := fun j => by
        rw [hs]; unfold Addr.add; split
        · rename_i h; subst h; rfl
        · rfl
      obtain ⟨h1, h2, _⟩ := hz k hk
      rw [e1] at h1 h2
      rw [nthP_mapr hk]
      exact ⟨h1, by rw [← h2]; rfl⟩
    · obtain ⟨i, hi, rfl⟩ := List.mem_map.1 hq
      obtain ⟨_, _, h3, h4⟩ := hz i (List.mem_range.1 hi)
      exact ⟨wf_i64 h3, wf_i64 h4⟩
theorem pc_rep (n : Nat) : pc (List.replicate n ((0 : Int), (0 : Int))) = List.replicate (n * 2) (Value.int .i64 0) := by
  induction n with
  | zero => rfl
  | succ n ih => rw [List.replicate_succ, show (n + 1) * 2 = n * 2 + 1 + 1 by omega, List.replicate_succ, List.replicate_succ]; simp only [pc, ih]
theorem OwnP.made_zero {w : World} {B n : Nat} {v : Value} (h : w.ownsRow B 32 2 v n (madeCells (Value.agg #[.int .i64 0, .int .i64 0]).cells (n * 2)).toList) : OwnP w B v (List.replicate n (0, 0)) := by
  have e : (madeCells (Value.agg #[.int .i64 0, .int .i64 0]).cells (n * 2)).toList = pc (List.replicate n ((0 : Int), (0 : Int))) := by
    rw [pc_rep]
    refine List.ext_getElem? fun i => ?_
    rw [show (Value.agg #[.int .i64 0, .int .i64 0]).cells = #[.int .i64 0, .int .i64 0] from rfl]
    by_cases hi : i < n * 2
    · rw [List.getElem?_replicate, if_pos hi]
      have h2 : i % 2 = 0 ∨ i % 2 = 1 := by omega
      rcases h2 with h2 | h2 <;> simp [madeCells, hi, h2]
    · rw [List.getElem?_replicate, if_neg hi]
      simp [madeCells]; omega
  rw [e] at h
  unfold OwnP
  simpa using h
theorem toPlace_any (r c : Int) (w : World) : Calls Try.prog 67 #[.agg #[.int .i64 r, .int .i64 c]] w fun e w' => e = .returned (.agg #[.int .i64 r, .int .i64 c]) ∧ Below w.heap.size w w' := by
  go_enter Try.func67, Try.ntmps67
  go_wp2_with fail
  go_returns
  exact ⟨by simp, by (repeat (first | (with_reducible assumption) | (with_reducible exact Below.refl _ _) | (with_reducible refine below_drewN' ?_ _) | (with_reducible refine Below.drew ?_) | ((with_reducible refine Below.alloc ?_ ?_ _); rotate_left; focus (first | (simp; done) | (simp; omega) | omega)) | ((with_reducible refine Below.setCell ?_ ?_ _); rotate_left; focus (first | (simp; done) | (simp; omega) | omega))))⟩
set_option maxHeartbeats 1000000 in
theorem toPlaceS_any (A : Option Addr) (n c : Nat) (ps : List (Int × Int)) (w : World) (B : Nat) (hr : RIP w B A n ps) (hB : B ≤ w.heap.size) (hn : n ≤ 2000000) :
    Calls Try.prog 28 #[.slice A n c] w fun e w' => ∃ v', e = .returned v' ∧ OwnP w' w.heap.size v' ps ∧ Below w.heap.size w w' := by
  obtain ⟨iP, hi⟩ := info_own' info_places
  have HP := Lib.hid (And.intro iP.bytes.le_refl hi)
  have HL := Lib.hid hr.len
  have HR := Lib.hid (hr.more hB)
  clear hi hr
  go_enter Try.func28, Try.ntmps28
  go_wp2_with (at_make; refine wpList_make_full w rfl _ _ 26 rfl w.heap.size 32 iP (.agg #[.int .i64 0, .int .i64 0]) 2 Try.underlying26 HP.out.2.1 HP.out.2.2.1 HP.out.2.2.2.1 .i64 .i64 n n n (by rfl) (by rfl) rfl rfl (by rw [HP.out.2.2.2.2]; omega) (by unfold maxLen; omega) (Nat.le_refl _) ?_; intro w1 hown1 hgrow1)
  have HO : Hid (OwnP w1 w.heap.size (.slice (some ⟨w.heap.size, 0, none⟩) n n) (List.replicate n (0, 0))) := Lib.hid (OwnP.made_zero hown1)
  have HB1 : Hid (Below w.heap.size w w1) := Lib.hid ((Below.refl _ _).grown hgrow1 (Nat.le_refl _) (fun k hk => by cases hk))
  have hg0 : 0 < n → w.heap.size < w1.heap.size := fun h0 => by
    obtain ⟨g, c', e, -, hlt, -⟩ := HO.out.cells (by simpa using h0)
    simp only [Value.slice.injEq, Option.some.injEq, Addr.mk.injEq, and_true] at e
    omega
  clear hown1 hgrow1
  go_wp2_with fail
  go_loopw [4] (fun i wr => ∃ k : Nat, k ≤ n ∧ i = .int .i64 k ∧ Hid (OwnP wr w.heap.size (.slice (some ⟨w.heap.size, 0, none⟩) n n) (ps.take k ++ (List.replicate n ((0 : Int), (0 : Int))).drop k)) ∧ Hid (w1.grownBy wr (some w.heap.size)))
    (fun i _ => n - (intOf i).toNat)
  case atStart => exact ⟨0, Nat.zero_le _, rfl, Lib.hid (by simpa using HO.out), Lib.hid (World.grownBy.refl _ _)⟩
  case round =>
    obtain ⟨k, hk, rfl, hown, hgr⟩ := hrel
    have hsr := hgr.out.size
    have HBr : Hid (Below w.heap.size w wr) := Lib.hid (HB1.out.grown hgr.out HB1.out.size (fun k hk => by cases hk; exact Nat.le_refl _))
    by_cases hlt : k < n
    · have hlen : (ps.take k ++ (List.replicate n ((0 : Int), (0 : Int))).drop k).length = n := by simp [HL.out]; omega
      have HLM := Lib.hid hlen
      obtain ⟨b, o, rfl, hb, hc⟩ := (HR.out.below HBr.out).cells (by omega)
      obtain ⟨p0, p1⟩ := hc k hlt
      have hmx := Lib.hid (set_mixP (ps := List.replicate n ((0 : Int), (0 : Int))) (qs := ps) (k := k) (by simp [HL.out]) (by simpa using hlt))
      generalize nthP ps k = p at p0 p1 hmx
      obtain ⟨pr, pc'⟩ := p
      simp only at p0 p1
      have hwz := hg0 (by omega)
      have hwr : w.heap.size < wr.heap.size := by omega
      clear hlen hc
      go_wp2_with fail
      (go_at_call 67; with_reducible refine (toPlace_any pr pc' _).mono ?_; rintro e2 w2 ⟨rfl, hb2⟩)
      have HO2 := Lib.hid (hown.out.keep hb2)
      have HG2 := Lib.hid (grown_below hgr.out hb2)
      have hs2 := hb2.size
      have hf0 := HO2.out.free HLM.out (k * 2)
      have hf1 := HO2.out.free HLM.out (k * 2 + 1)
      obtain ⟨g', c', e', -, -, hc2⟩ := HO2.out.cells (by rw [HLM.out]; omega)
      simp only [Value.slice.injEq, Option.some.injEq, Addr.mk.injEq, and_true] at e'
      obtain ⟨rfl, -, -⟩ := e'
      obtain ⟨q0, q1⟩ := hc2 k (by rw [HLM.out]; exact hlt)
      have hset := Lib.hid (OwnP.set2 HLM.out HO2.out (k := k) (a := pr) (b := pc'))
      clear hb2 hc2 p0 p1
      go_wp2_with fail
      go_roundw
      case rel => exact ⟨k + 1, by omega, by go_num, Lib.hid (by rw [← hmx.out]; exact hset.out), Lib.hid (grown_set (grown_set HG2.out _) _)⟩
      case measure => simp [intOf]; omega
    · have hkn : k = n := by omega
      have hfin := hown.out
      rw [hkn, List.take_of_length_le (by rw [HL.out]; exact Nat.le_refl _), List.drop_of_length_le (by simp), List.append_nil] at hfin
      have HF := Lib.hid hfin
      clear hfin
      go_wp2_with fail
      go_ret
      exact ⟨_, rfl, HF.out, HBr.out⟩
theorem szPlaceS_ok (A : Option Addr) (n cp m : Nat) (w : World) (hn : n ≤ m) (hm : m ≤ 1000000000) :
    Calls Try.prog 26 #[.slice A n cp, .int .i64 m] w fun e w' => e = .returned (.int .i64 (m - n : Nat)) ∧ w = w' := by
  have h1 : (m : Int) - n = ((m - n : Nat) : Int) := by omega
  have h2 : ¬ ((m - n : Nat) : Int) < 0 := by omega
  go_enter Try.func26, Try.ntmps26
  go_wp2_with fail
  go_ret
  exact ⟨ret_int (by omega), rfl⟩
theorem szPlaceS_no (A : Option Addr) (n cp m : Nat) (w : World) (hn : m < n) (hn2 : n ≤ 9223372036854775807) :
    Calls Try.prog 26 #[.slice A n cp, .int .i64 m] w fun e w' => e = .returned (.int .i64 (-1)) ∧ w = w' := by
  have h2 : (m : Int) - n < 0 := by omega
  go_enter Try.func26, Try.ntmps26
  go_wp2_with fail
  go_ret
  exact ⟨rfl, rfl⟩
set_option maxHeartbeats 1000000 in
theorem l14Is_any (A : Option Addr) (n c : Nat) (qs : List (Int × Int)) (r d : Int) (w : World) (B : Nat) (hr : RIP w B A n qs) (hn : n ≤ 2000000) :
    Calls Try.prog 65 #[.slice A n c, .int .i64 r, .int .i64 d] w fun e w' => e = .returned (.bool (isQ qs (r, d))) ∧ w = w' := by
  have HL := Lib.hid hr.len
  have HR := Lib.hid hr
  clear hr
  go_enter Try.func65, Try.ntmps65
  go_wp2_with fail
  go_loop [7] (fun i => ∃ k : Nat, k ≤ n ∧ i = .int .i64 k ∧ Hid (∀ j, j < k → eqP r d (nthP qs j) = false)) (fun i => n - (intOf i).toNat)
  case atStart => exact ⟨0, Nat.zero_le _, rfl, Lib.hid (fun j hj => by omega)⟩
  case round =>
    obtain ⟨k, hk, rfl, hno⟩ := hrel
    by_cases hlt : k < n
    · obtain ⟨b, o, rfl, hb, hc⟩ := HR.out.cells (by omega)
      obtain ⟨p0, p1⟩ := hc k hlt
      have hyes := Lib.hid (fun h => isQ_true (qs := qs) (p := (r, d)) (j := k) (by rw [HL.out]; exact hlt) h)
      have hstep : Hid (eqP r d (nthP qs k) = false → ∀ j, j < k + 1 → eqP r d (nthP qs j) = false) := Lib.hid (fun h j hj => by
        by_cases e : j = k
        · subst e; exact h
        · exact hno.out j (by omega))
      generalize nthP qs k = p at p0 p1 hyes hstep
      obtain ⟨pr, pc'⟩ := p
      simp only at p0 p1
      clear hc
      by_cases h1 : pr = r
      · subst h1
        by_cases h2 : pc' = d
        · subst h2
          have hy := Lib.hid (hyes.out (eqP_iff.2 rfl))
          go_wp2_with fail
          go_ret
          exact ⟨ret_bool (by rw [hy.out]), rfl⟩
        · have hs := Lib.hid (hstep.out (by
            cases e : eqP pr d (pr, pc') with
            | false => rfl
            | true => have := eqP_iff.1 e; simp only [Prod.mk.injEq] at this; exact absurd this.2 h2))
          have h2' : (pc' == d) = false := by simpa using h2
          go_wp2_with fail
          go_round
          case rel => exact ⟨k + 1, by omega, by go_num, hs⟩
          case measure => simp [intOf]; omega
      · have hs := Lib.hid (hstep.out (by
          cases e : eqP r d (pr, pc') with
          | false => rfl
          | true => have := eqP_iff.1 e; simp only [Prod.mk.injEq] at this; exact absurd this.1 h1))
        have h1' : (pr == r) = false := by simpa using h1
        go_wp2_with fail
        go_round
        case rel => exact ⟨k + 1, by omega, by go_num, hs⟩
        case measure => simp [intOf]; omega
    · have hkn : k = n := by omega
      have hN := Lib.hid (isQ_false (qs := qs) (p := (r, d)) (fun j hj => hno.out j (by rw [HL.out] at hj; omega)))
      clear hkn
      go_wp2_with fail
      go_ret
      exact ⟨ret_bool (by rw [hN.out]), rfl⟩
end Go.Proofs.Yteghpageamehkaa
