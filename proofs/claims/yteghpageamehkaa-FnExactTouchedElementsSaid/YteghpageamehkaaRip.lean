/-
  Lists of places that can be read: arguments, the laws' copy of them, the reference's word 'is one of them'.
-/
import Derived.Test.YteghpageamehkaaTe
import Derived.Test.YteghpageamehkaaArgG
import Derived.Test.YteghpageamehkaaPlW
import Derived.Deep.SlicePairs
namespace Go.Proofs.Yteghpageamehkaa
set_option linter.unusedSimpArgs false
open Go.ChangeShapes Go.WideShapes Go.ChangeAt Go.RowKit Go.Deep

/-- A slice of n places at A, below block B, reads as ps. -/
def RIP (w : World) (B : Nat) (A : Option Addr) (n : Nat) (ps : List (Int × Int)) : Prop :=
  ps.length = n ∧ (0 < n → ∃ b o, A = some ⟨b, o, none⟩ ∧ b < B ∧ ∀ k, k < n → w.cell? ⟨b, o + k * 2, none⟩ = some (.int .i64 (nthP ps k).1) ∧ w.cell? ⟨b, o + k * 2 + 1, none⟩ = some (.int .i64 (nthP ps k).2))
theorem RIP.len {w : World} {B n : Nat} {A : Option Addr} {ps : List (Int × Int)} (h : RIP w B A n ps) : ps.length = n := h.1
theorem RIP.cells {w : World} {B n : Nat} {A : Option Addr} {ps : List (Int × Int)} (h : RIP w B A n ps) (h0 : 0 < n) : ∃ b o, A = some ⟨b, o, none⟩ ∧ b < B ∧ ∀ k, k < n → w.cell? ⟨b, o + k * 2, none⟩ = some (.int .i64 (nthP ps k).1) ∧ w.cell? ⟨b, o + k * 2 + 1, none⟩ = some (.int .i64 (nthP ps k).2) := h.2 h0
theorem RIP.below {w w' : World} {B n : Nat} {A : Option Addr} {ps : List (Int × Int)} (h : RIP w B A n ps) (hb : Below B w w') : RIP w' B A n ps := by
  refine ⟨h.1, fun h0 => ?_⟩
  obtain ⟨b, o, rfl, hlt, hc⟩ := h.2 h0
  exact ⟨b, o, rfl, hlt, fun k hk => ⟨(hb.cell (p := ⟨b, o + k * 2, none⟩) hlt).trans (hc k hk).1, (hb.cell (p := ⟨b, o + k * 2 + 1, none⟩) hlt).trans (hc k hk).2⟩⟩
theorem RIP.more {w : World} {B B' n : Nat} {A : Option Addr} {ps : List (Int × Int)} (h : RIP w B A n ps) (hB : B ≤ B') : RIP w B' A n ps := by
  refine ⟨h.1, fun h0 => ?_⟩
  obtain ⟨b, o, rfl, hlt, hc⟩ := h.2 h0
  exact ⟨b, o, rfl, by omega, hc⟩
theorem RIP.nil {w : World} {B : Nat} : RIP w B none 0 [] := ⟨rfl, fun h => by omega⟩
theorem OwnP.rip {w : World} {B n c : Nat} {A : Option Addr} {ps : List (Int × Int)} (h : OwnP w B (.slice A n c) ps) (hl : ps.length = n) : RIP w w.heap.size A n ps := by
  subst hl
  refine ⟨rfl, fun h0 => ?_⟩
  obtain ⟨g, c', e, -, hlt, hc⟩ := h.cells h0
  simp only [Value.slice.injEq] at e
  obtain ⟨rfl, -, -⟩ := e
  exact ⟨g, 0, rfl, hlt, fun k hk => by have := hc k hk; simpa using this⟩
theorem nthP_mapr {x y : Nat → Int} {n k : Nat} (hk : k < n) : nthP ((List.range n).map fun i => (x i, y i)) k = (x k, y k) := by
  unfold nthP; simp [List.getD_eq_getElem?_getD, hk]
theorem arg_places {H : Type} {enc : TypeId × Value → H} {P : Program} {W : World} {r : Reach} {base : Nat} {t e : TypeId} {f0 f1 : Field} {v : Value} {d : DataW H} {p : List MemPlace}
    (ht : P.underlying t = some (.slice e)) (he : P.underlying e = some (.struct #[f0, f1])) (ce : P.cellsOf e = 2) (o0 : f0.offset = 0) (o1 : f1.offset = 1) (c0 : P.cellsOf f0.type = 1) (c1 : P.cellsOf f1.type = 1)
    (i0 : P.underlying f0.type = some (.int .i64)) (i1 : P.underlying f1.type = some (.int .i64))
    (hv : Value.okWide P W r base t v) (h : DataW.Trod enc P W 0 (fun _ => true) true t v d p) :
    ∃ A n c ps, v = .slice A n c ∧ RIP W W.heap.size A n ps ∧ n ≤ 9223372036854775807 ∧ ∀ q ∈ ps, (-9223372036854775808 ≤ q.1 ∧ q.1 ≤ 9223372036854775807) ∧ (-9223372036854775808 ≤ q.2 ∧ q.2 ≤ 9223372036854775807) := by
  obtain ⟨a0, n, c, rfl⟩ := okWide_slice ht hv
  obtain ⟨fuel, hf⟩ := h
  rcases open_slice_pairs ht he ce o0 o1 c0 c1 hf with ⟨hcs, hx⟩ | ⟨a, len, cap, m, n', V0, V1, D0, D1, P0, P1, hcs, _, hl, hm, hmm, hx, hcell⟩
  · simp [Value.cells] at hcs
    obtain ⟨rfl, rfl, rfl⟩ := hcs
    exact ⟨none, 0, 0, [], rfl, RIP.nil, by omega, fun q hq => by cases hq⟩
  · simp [Value.cells] at hcs
    obtain ⟨rfl, rfl, rfl⟩ := hcs
    simp only [if_true] at hmm
    rw [hmm] at hcell
    unfold maxLen at hm
    have each : ∀ i, i < n → ∃ z : Int × Int, W.cell? (a.add (i * 2)) = some (.int .i64 z.1) ∧ W.cell? (a.add (i * 2 + 1)) = some (.int .i64 z.2) ∧ (Lit.int .i64 z.1).wf = true ∧ (Lit.int .i64 z.2).wf = true := by
      intro i hi
      obtain ⟨h1, h2, h3, h4⟩ := hcell i (by omega)
      obtain ⟨x, hx, _, hwx⟩ := DataW.trod_int i0 h3
      obtain ⟨y, hy, _, hwy⟩ := DataW.trod_int i1 h4
      simp only [List.cons.injEq, and_true] at hx hy
      exact ⟨(x, y), by rw [h1, hx], by rw [h2, hy], hwx, hwy⟩
    obtain ⟨z, hz⟩ := choose_lt each
    refine ⟨some a, n, c, (List.range n).map fun i => ((z i).1, (z i).2), rfl, ⟨by simp, fun h0 => ?_⟩, by omega, fun q hq => ?_⟩
    · have h0' := (hz 0 h0).1
      have hadd : a.add (0 * 2) = a := by unfold Addr.add; simp
      rw [hadd] at h0'
      have hs := spot_none h0'
      refine ⟨a.block, a.off, by rw [← hs], World.block_lt_of_cell? W a h0', fun k hk => ?_⟩
      have e1 : ∀ j, a.add j = ⟨a.block, a.off + j, none⟩ := fun j => by
        rw [hs]; unfold Addr.add; split
        · rename_i h; subst h; rfl
        · rfl
      obtain ⟨h1, h2, _⟩ := hz k hk
      rw [e1] at h1 h2
      rw [nthP_mapr hk]
      exact ⟨h1, by rw [← h2]; rfl⟩
    · obtain ⟨i, hi, rfl⟩ := List.mem_map.1 hq
      obtain ⟨_, _, h3, h4⟩ := hz i (List.mem_range.1 hi)
      exact ⟨wf_i64 h3, wf_i64 h4⟩
theorem pc_rep (n : Nat) : pc (List.replicate n ((0 : Int), (0 : Int))) = List.replicate (n * 2) (Value.int .i64 0) := by
  induction n with
  | zero => rfl
  | succ n ih => rw [List.replicate_succ, show (n + 1) * 2 = n * 2 + 1 + 1 by omega, List.replicate_succ, List.replicate_succ]; simp only [pc, ih]
theorem OwnP.made_zero {w : World} {B n : Nat} {v : Value} (h : w.ownsRow B 32 2 v n (madeCells (Value.agg #[.int .i64 0, .int .i64 0]).cells (n * 2)).toList) : OwnP w B v (List.replicate n (0, 0)) := by
  have e : (madeCells (Value.agg #[.int .i64 0, .int .i64 0]).cells (n * 2)).toList = pc (List.replicate n ((0 : Int), (0 : Int))) := by
    rw [pc_rep]
    refine List.ext_getElem? fun i => ?_
    rw [show (Value.agg #[.int .i64 0, .int .i64 0]).cells = #[.int .i64 0, .int .i64 0] from rfl]
    by_cases hi : i < n * 2
    · rw [List.getElem?_replicate, if_pos hi]
      have h2 : i % 2 = 0 ∨ i % 2 = 1 := by omega
      rcases h2 with h2 | h2 <;> simp [madeCells, hi, h2]
    · rw [List.getElem?_replicate, if_neg hi]
      simp [madeCells]; omega
  rw [e] at h
  unfold OwnP
  simpa using h
theorem toPlace_any (r c : Int) (w : World) : Calls Try.prog 67 #[.agg #[.int .i64 r, .int .i64 c]] w fun e w' => e = .returned (.agg #[.int .i64 r, .int .i64 c]) ∧ Below w.heap.size w w' := by
  go_enter Try.func67, Try.ntmps67
  go_wp2_with fail
  go_returns
  exact ⟨by simp, by (repeat (first | (with_reducible assumption) | (with_reducible exact Below.refl _ _) | (with_reducible refine below_drewN' ?_ _) | (with_reducible refine Below.drew ?_) | ((with_reducible refine Below.alloc ?_ ?_ _); rotate_left; focus (first | (simp; done) | (simp; omega) | omega)) | ((with_reducible refine Below.setCell ?_ ?_ _); rotate_left; focus (first | (simp; done) | (simp; omega) | omega))))⟩
set_option maxHeartbeats 1000000 in
theorem toPlaceS_any (A : Option Addr) (n c : Nat) (ps : List (Int × Int)) (w : World) (B : Nat) (hr : RIP w B A n ps) (hB : B ≤ w.heap.size) (hn : n ≤ 2000000) :
    Calls Try.prog 28 #[.slice A n c] w fun e w' => ∃ v', e = .returned v' ∧ OwnP w' w.heap.size v' ps ∧ Below w.heap.size w w' := by
  obtain ⟨iP, hi⟩ := info_own' info_places
  have HP := Lib.hid (And.intro iP.bytes.le_refl hi)
  have HL := Lib.hid hr.len
  have HR := Lib.hid (hr.more hB)
  clear hi hr
  go_enter Try.func28, Try.ntmps28
  go_wp2_with (at_make; refine wpList_make_full w rfl _ _ 26 rfl w.heap.size 32 iP (.agg #[.int .i64 0, .int .i64 0]) 2 Try.underlying26 HP.out.2.1 HP.out.2.2.1 HP.out.2.2.2.1 .i64 .i64 n n n (by rfl) (by rfl) rfl rfl (by rw [HP.out.2.2.2.2]; omega) (by unfold maxLen; omega) (Nat.le_refl _) ?_; intro w1 hown1 hgrow1)
  have HO : Hid (OwnP w1 w.heap.size (.slice (some ⟨w.heap.size, 0, none⟩) n n) (List.replicate n (0, 0))) := Lib.hid (OwnP.made_zero hown1)
  have HB1 : Hid (Below w.heap.size w w1) := Lib.hid ((Below.refl _ _).grown hgrow1 (Nat.le_refl _) (fun k hk => by cases hk))
  have hg0 : 0 < n → w.heap.size < w1.heap.size := fun h0 => by
    obtain ⟨g, c', e, -, hlt, -⟩ := HO.out.cells (by simpa using h0)
    simp only [Value.slice.injEq, Option.some.injEq, Addr.mk.injEq, and_true] at e
    omega
  clear hown1 hgrow1
  go_wp2_with fail
  go_loopw [4] (fun i wr => ∃ k : Nat, k ≤ n ∧ i = .int .i64 k ∧ Hid (OwnP wr w.heap.size (.slice (some ⟨w.heap.size, 0, none⟩) n n) (ps.take k ++ (List.replicate n ((0 : Int), (0 : Int))).drop k)) ∧ Hid (w1.grownBy wr (some w.heap.size)))
    (fun i _ => n - (intOf i).toNat)
  case atStart => exact ⟨0, Nat.zero_le _, rfl, Lib.hid (by simpa using HO.out), Lib.hid (World.grownBy.refl _ _)⟩
  case round =>
    obtain ⟨k, hk, rfl, hown, hgr⟩ := hrel
    have hsr := hgr.out.size
    have HBr : Hid (Below w.heap.size w wr) := Lib.hid (HB1.out.grown hgr.out HB1.out.size (fun k hk => by cases hk; exact Nat.le_refl _))
    by_cases hlt : k < n
    · have hlen : (ps.take k ++ (List.replicate n ((0 : Int), (0 : Int))).drop k).length = n := by simp [HL.out]; omega
      have HLM := Lib.hid hlen
      obtain ⟨b, o, rfl, hb, hc⟩ := (HR.out.below HBr.out).cells (by omega)
      obtain ⟨p0, p1⟩ := hc k hlt
      have hmx := Lib.hid (set_mixP (ps := List.replicate n ((0 : Int), (0 : Int))) (qs := ps) (k := k) (by simp [HL.out]) (by simpa using hlt))
      generalize nthP ps k = p at p0 p1 hmx
      obtain ⟨pr, pc'⟩ := p
      simp only at p0 p1
      have hwz := hg0 (by omega)
      have hwr : w.heap.size < wr.heap.size := by omega
      clear hlen hc
      go_wp2_with fail
      (go_at_call 67; with_reducible refine (toPlace_any pr pc' _).mono ?_; rintro e2 w2 ⟨rfl, hb2⟩)
      have HO2 := Lib.hid (hown.out.keep hb2)
      have HG2 := Lib.hid (grown_below hgr.out hb2)
      have hs2 := hb2.size
      have hf0 := HO2.out.free HLM.out (k * 2)
      have hf1 := HO2.out.free HLM.out (k * 2 + 1)
      obtain ⟨g', c', e', -, -, hc2⟩ := HO2.out.cells (by rw [HLM.out]; omega)
      simp only [Value.slice.injEq, Option.some.injEq, Addr.mk.injEq, and_true] at e'
      obtain ⟨rfl, -, -⟩ := e'
      obtain ⟨q0, q1⟩ := hc2 k (by rw [HLM.out]; exact hlt)
      have hset := Lib.hid (OwnP.set2 HLM.out HO2.out (k := k) (a := pr) (b := pc'))
      clear hb2 hc2 p0 p1
      go_wp2_with fail
      go_roundw
      case rel => exact ⟨k + 1, by omega, by go_num, Lib.hid (by rw [← hmx.out]; exact hset.out), Lib.hid (grown_set (grown_set HG2.out _) _)⟩
      case measure => simp [intOf]; omega
    · have hkn : k = n := by omega
      have hfin := hown.out
      rw [hkn, List.take_of_length_le (by rw [HL.out]; exact Nat.le_refl _), List.drop_of_length_le (by simp), List.append_nil] at hfin
      have HF := Lib.hid hfin
      clear hfin
      go_wp2_with fail
      go_ret
      exact ⟨_, rfl, HF.out, HBr.out⟩
theorem szPlaceS_ok (A : Option Addr) (n cp m : Nat) (w : World) (hn : n ≤ m) (hm : m ≤ 1000000000) :
    Calls Try.prog 26 #[.slice A n cp, .int .i64 m] w fun e w' => e = .returned (.int .i64 (m - n : Nat)) ∧ w = w' := by
  have h1 : (m : Int) - n = ((m - n : Nat) : Int) := by omega
  have h2 : ¬ ((m - n : Nat) : Int) < 0 := by omega
  go_enter Try.func26, Try.ntmps26
  go_wp2_with fail
  go_ret
  exact ⟨ret_int (by omega), rfl⟩
theorem szPlaceS_no (A : Option Addr) (n cp m : Nat) (w : World) (hn : m < n) (hn2 : n ≤ 9223372036854775807) :
    Calls Try.prog 26 #[.slice A n cp, .int .i64 m] w fun e w' => e = .returned (.int .i64 (-1)) ∧ w = w' := by
  have h2 : (m : Int) - n < 0 := by omega
  go_enter Try.func26, Try.ntmps26
  go_wp2_with fail
  go_ret
  exact ⟨rfl, rfl⟩
set_option maxHeartbeats 1000000 in
theorem l14Is_any (A : Option Addr) (n c : Nat) (qs : List (Int × Int)) (r d : Int) (w : World) (B : Nat) (hr : RIP w B A n qs) (hn : n ≤ 2000000) :
    Calls Try.prog 65 #[.slice A n c, .int .i64 r, .int .i64 d] w fun e w' => e = .returned (.bool (isQ qs (r, d))) ∧ w = w' := by
  have HL := Lib.hid hr.len
  have HR := Lib.hid hr
  clear hr
  go_enter Try.func65, Try.ntmps65
  go_wp2_with fail
  go_loop [7] (fun i => ∃ k : Nat, k ≤ n ∧ i = .int .i64 k ∧ Hid (∀ j, j < k → eqP r d (nthP qs j) = false)) (fun i => n - (intOf i).toNat)
  case atStart => exact ⟨0, Nat.zero_le _, rfl, Lib.hid (fun j hj => by omega)⟩
  case round =>
    obtain ⟨k, hk, rfl, hno⟩ := hrel
    by_cases hlt : k < n
    · obtain ⟨b, o, rfl, hb, hc⟩ := HR.out.cells (by omega)
      obtain ⟨p0, p1⟩ := hc k hlt
      have hyes := Lib.hid (fun h => isQ_true (qs := qs) (p := (r, d)) (j := k) (by rw [HL.out]; exact hlt) h)
      have hstep : Hid (eqP r d (nthP qs k) = false → ∀ j, j < k + 1 → eqP r d (nthP qs j) = false) := Lib.hid (fun h j hj => by
        by_cases e : j = k
        · subst e; exact h
        · exact hno.out j (by omega))
      generalize nthP qs k = p at p0 p1 hyes hstep
      obtain ⟨pr, pc'⟩ := p
      simp only at p0 p1
      clear hc
      by_cases h1 : pr = r
      · subst h1
        by_cases h2 : pc' = d
        · subst h2
          have hy := Lib.hid (hyes.out (eqP_iff.2 rfl))
          go_wp2_with fail
          go_ret
          exact ⟨ret_bool (by rw [hy.out]), rfl⟩
        · have hs := Lib.hid (hstep.out (by
            cases e : eqP pr d (pr, pc') with
            | false => rfl
            | true => have := eqP_iff.1 e; simp only [Prod.mk.injEq] at this; exact absurd this.2 h2))
          have h2' : (pc' == d) = false := by simpa using h2
          go_wp2_with fail
          go_round
          case rel => exact ⟨k + 1, by omega, by go_num, hs⟩
          case measure => simp [intOf]; omega
      · have hs := Lib.hid (hstep.out (by
          cases e : eqP r d (pr, pc') with
          | false => rfl
          | true => have := eqP_iff.1 e; simp only [Prod.mk.injEq] at this; exact absurd this.1 h1))
        have h1' : (pr == r) = false := by simpa using h1
        go_wp2_with fail
        go_round
        case rel => exact ⟨k + 1, by omega, by go_num, hs⟩
        case measure => simp [intOf]; omega
    · have hkn : k = n := by omega
      have hN := Lib.hid (isQ_false (qs := qs) (p := (r, d)) (fun j hj => hno.out j (by rw [HL.out] at hj; omega)))
      clear hkn
      go_wp2_with fail
      go_ret
      exact ⟨ret_bool (by rw [hN.out]), rfl⟩
end Go.Proofs.Yteghpageamehkaa
