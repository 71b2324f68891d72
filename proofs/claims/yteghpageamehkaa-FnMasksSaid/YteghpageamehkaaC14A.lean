/-
  Contracts of chapter 14: the cells of a grid at some places, the program and the reference.
-/
import Derived.Test.YteghpageamehkaaC14S
import Derived.Test.YteghpageamehkaaC15N
import Derived.Test.YteghpageamehkaaPut
import Derived.Test.YteghpageamehkaaRegion
namespace Go.Proofs.Yteghpageamehkaa
set_option linter.unusedSimpArgs false
open Go.RowKit

/-- The cells of a grid of size N at places. -/
def atL (N : Nat) (xs : List Int) (ps : List (Int × Int)) : List Int := ps.map fun p => nth xs (idxP N p)
theorem atL_len (N : Nat) (xs : List Int) (ps : List (Int × Int)) : (atL N xs ps).length = ps.length := by simp [atL]
theorem atL_nth {N : Nat} {xs : List Int} {ps : List (Int × Int)} {k : Nat} (h : k < ps.length) : nth (atL N xs ps) k = nth xs (idxP N (nthP ps k)) := by
  rw [nth_lt (by rw [atL_len]; exact h), nthP_lt h]; simp [atL]
theorem atL_take {N : Nat} {xs : List Int} {ps : List (Int × Int)} {k : Nat} (h : k < ps.length) : (atL N xs ps).take (k + 1) = (atL N xs ps).take k ++ [nth xs (idxP N (nthP ps k))] := by
  rw [List.take_succ_eq_append_getElem (by rw [atL_len]; exact h), ← nth_lt (by rw [atL_len]; exact h), atL_nth h]
/-- Places that can be read: their cells lie in block g below B. -/
def RP (w : World) (B g : Nat) (ps : List (Int × Int)) : Prop :=
  g < B ∧ g < w.heap.size ∧ ∀ k, k < ps.length → w.cell? ⟨g, k * 2, none⟩ = some (.int .i64 (nthP ps k).1) ∧ w.cell? ⟨g, k * 2 + 1, none⟩ = some (.int .i64 (nthP ps k).2)
theorem RP.below {w w' : World} {B B' g : Nat} {ps : List (Int × Int)} (h : RP w B g ps) (hb : Below B' w w') (hB : B ≤ B') : RP w' B g ps := by
  obtain ⟨h1, h2, h3⟩ := h
  exact ⟨h1, Nat.lt_of_lt_of_le h2 hb.size, fun k hk => ⟨(hb.cell (p := ⟨g, k * 2, none⟩) (Nat.lt_of_lt_of_le h1 hB)).trans (h3 k hk).1, (hb.cell (p := ⟨g, k * 2 + 1, none⟩) (Nat.lt_of_lt_of_le h1 hB)).trans (h3 k hk).2⟩⟩
theorem RP.of {w : World} {B g c n : Nat} {ps : List (Int × Int)} (h : OwnP w B (.slice (some ⟨g, 0, none⟩) n c) ps) (hn : ps.length = n) (h0 : 0 < n) : RP w w.heap.size g ps := by
  subst hn
  obtain ⟨g', c', e, -, hlt, hc⟩ := h.cells h0
  simp only [Value.slice.injEq, Option.some.injEq, Addr.mk.injEq, and_true] at e
  obtain ⟨rfl, -⟩ := e
  exact ⟨hlt, hlt, hc⟩
theorem idxP_lt {N : Nat} {p : Int × Int} (h : 0 ≤ p.1 ∧ 0 ≤ p.2 ∧ p.1 < N ∧ p.2 < N) : idxP N p < N * N ∧ p.1 * N + p.2 = (idxP N p : Int) := by
  obtain ⟨a, b⟩ := p
  simp only at h
  obtain ⟨A, rfl⟩ := Int.eq_ofNat_of_zero_le h.1
  obtain ⟨B, rfl⟩ := Int.eq_ofNat_of_zero_le h.2.1
  unfold idxP
  rw [show ((A : Int) * N + B) = ((A * N + B : Nat) : Int) by simp, Int.toNat_natCast]
  exact ⟨cell_lt (by omega) (by omega), rfl⟩
theorem one_news {w : World} {g : Nat} {y : Int} (h : w.cell? ⟨g, 0, none⟩ = (#[Value.int .i64 y] : Array Value)[0]?) : ∀ j u, [Value.int .i64 y][j]? = some u → w.cell? ((⟨g, 0, none⟩ : Addr).add j) = some u := by
  intro j u hj
  match j with
  | 0 => rw [← hj]; exact h
  | j + 1 => simp at hj
set_option maxHeartbeats 1000000 in
theorem at_any (R C r c : Int) (b o cp P K : Nat) (xs : List Int) (w : World) (B : Nat) (hr : RI w B (some ⟨b, o, none⟩) P xs) (hB : B ≤ w.heap.size) (hP : P ≤ 1000000) (hK : r * C + c = (K : Int)) (hKP : K < P) (hc : 0 ≤ c ∧ c ≤ 1000000) :
    Calls Try.prog 91 #[.agg #[.int .i64 R, .int .i64 C, .slice (some ⟨b, o, none⟩) P cp], .agg #[.int .i64 r, .int .i64 c]] w fun e w' =>
      e = .returned (.int .i64 (nth xs K)) ∧ Below w.heap.size w w' := by
  obtain ⟨b', o', e', hb', hc'⟩ := (hr.more hB).cells (by omega)
  simp only [Option.some.injEq, Addr.mk.injEq, and_true] at e'
  obtain ⟨rfl, rfl⟩ := e'
  have hck := hc' K (by omega)
  clear hc' hr
  go_enter Try.func91, Try.ntmps91
  go_wp2_with fail
  first | go_ret | go_returns
  exact ⟨rfl, by (repeat (first | (with_reducible assumption) | (with_reducible exact Below.refl _ _) | (with_reducible refine below_drewN' ?_ _) | (with_reducible refine Below.drew ?_) | ((with_reducible refine Below.alloc ?_ ?_ _); rotate_left; focus (first | (simp; done) | (simp; omega) | omega)) | ((with_reducible refine Below.setCell ?_ ?_ _); rotate_left; focus (first | (simp; done) | (simp; omega) | omega))))⟩
set_option maxHeartbeats 4000000 in
theorem cellsAt_any (N b o cp g cq M : Nat) (xs : List Int) (ps : List (Int × Int)) (w : World) (B : Nat) (hr : RI w B (some ⟨b, o, none⟩) (N * N) xs) (hp : RP w B g ps) (hB : B ≤ w.heap.size) (hl : ps.length = M) (hM : M ≤ 10000)
    (hin : ∀ p ∈ ps, 0 ≤ p.1 ∧ 0 ≤ p.2 ∧ p.1 < N ∧ p.2 < N) (hN : N ≤ 41) :
    Calls Try.prog 88 #[.agg #[.int .i64 N, .int .i64 N, .slice (some ⟨b, o, none⟩) (N * N) cp], .slice (some ⟨g, 0, none⟩) M cq] w fun e w' =>
      ∃ v, e = .returned v ∧ Own w' w.heap.size v (atL N xs ps) ∧ Below w.heap.size w w' := by
  obtain ⟨i0, hi⟩ := info_own' info_i64s
  have HI := Lib.hid (And.intro i0.bytes.le_refl hi)
  have HR := Lib.hid (hr.more hB)
  have HP := Lib.hid hp
  have HL := Lib.hid hl
  have HIN := Lib.hid hin
  have hNN : N * N ≤ 1681 := Nat.mul_le_mul hN hN
  have HLA : Hid ((atL N xs ps).length = M) := Lib.hid (by rw [atL_len, hl])
  clear hi hr hp hl hin
  go_enter Try.func88, Try.ntmps88
  go_wp2_with (at_make; refine wpList_make_full (w.alloc (.cells #[.int .i64 (N : Int), .int .i64 (N : Int), .slice (some ⟨b, o, none⟩) (N * N) cp] 37)) rfl _ _ 35 rfl (w.heap.size + 1) 2 i0 (.int .i64 0) 1 Try.underlying35 HI.out.2.1 HI.out.2.2.1 HI.out.2.2.2.1 .i64 .i64 M M M (by rfl) (by rfl) rfl rfl (by rw [HI.out.2.2.2.2]; omega) (by unfold maxLen; omega) (by simp) ?_; intro w1 hown1 hgrow1; have hs1 := hgrow1.size)
  have HO : Hid (Own w1 (w.heap.size + 1) (.slice (some ⟨w.heap.size + 1, 0, none⟩) M M) (List.replicate M 0)) := Lib.hid (by have := Own.made_zero hown1; simpa using this)
  have HB1 : Hid (Below (w.heap.size + 1) (w.alloc (.cells #[.int .i64 (N : Int), .int .i64 (N : Int), .slice (some ⟨b, o, none⟩) (N * N) cp] 37)) w1) := Lib.hid ((Below.refl _ _).grown hgrow1 (by simp) (fun k hk => by cases hk))
  have HX1 : Hid (w1.heap[w.heap.size]? = some (.cells #[.int .i64 (N : Int), .int .i64 (N : Int), .slice (some ⟨b, o, none⟩) (N * N) cp] 37 (0, 0))) := Lib.hid (blk_below (heap_alloc_new _ _) HB1.out (Nat.lt_succ_self _))
  have HW : Hid (Below w.heap.size w w1) := Lib.hid ((by go_grown : Below w.heap.size w (w.alloc (.cells #[.int .i64 (N : Int), .int .i64 (N : Int), .slice (some ⟨b, o, none⟩) (N * N) cp] 37))).trans (HB1.out.mono (Nat.le_succ _)))
  simp only [World.size_alloc] at hs1
  have hg0 : w.heap.size + 1 < w1.heap.size := by
    rcases Nat.eq_zero_or_pos M with h0 | h0
    · have h2 := hown1.2
      rcases h2 with ⟨h2, _⟩ | ⟨g, cap, cur, h2, _, hh, _⟩
      · simp at h2
      · simp at h2; have := lt_of_block hh; omega
    · have := (World.ownsRow.lt HO.out (w.heap.size + 1) rfl).2; exact this
  clear hown1 hgrow1 hs1
  go_wp2_with fail
  go_loopw [6, 7, 13] (fun q1 q2 q wr => ∃ i : Nat, i ≤ M ∧ q = .int .i64 i ∧ Hid (Own wr (w.heap.size + 1) (.slice (some ⟨w.heap.size + 1, 0, none⟩) M M) ((atL N xs ps).take i ++ (List.replicate M (0 : Int)).drop i)) ∧ Hid (w1.grownBy wr (some (w.heap.size + 1))))
    (fun _ _ q _ => M - (intOf q).toNat)
  case atStart => exact ⟨0, Nat.zero_le _, rfl, Lib.hid (by have := HO.out; simpa using this), Lib.hid (World.grownBy.refl _ _)⟩
  case round =>
    obtain ⟨i, hi, rfl, hown, hgr⟩ := hrel
    have hsr := hgr.out.size
    have HBW : Hid (Below w.heap.size w wr) := Lib.hid (HW.out.grown hgr.out (by omega) (fun k hk => by cases hk; omega))
    by_cases hlt : i < M
    · have hlm : ((atL N xs ps).take i ++ (List.replicate M (0 : Int)).drop i).length = M := by simp [HLA.out]; omega
      have HLM := Lib.hid hlm
      have hk2 : i < ps.length := by rw [HL.out]; exact hlt
      obtain ⟨hia, hib⟩ := idxP_lt (HIN.out _ (nthP_mem hk2))
      have hic := (HIN.out _ (nthP_mem hk2)).2
      have hmix := set_mix (xs := List.replicate M (0 : Int)) (ys := atL N xs ps) (k := i) (by simp [HLA.out]) (by simpa using hlt)
      rw [atL_nth hk2] at hmix
      have HM := Lib.hid hmix
      have HRw := Lib.hid (HR.out.below HBW.out)
      obtain ⟨-, -, hpc⟩ := HP.out.below HBW.out hB
      obtain ⟨p0, p1⟩ := hpc i hk2
      obtain ⟨z0, z1, z2, -⟩ := blk3 ((hgr.out.block w.heap.size (by omega) (by simp)).trans HX1.out)
      generalize nthP ps i = p at hia hib hic p0 p1 HM
      obtain ⟨pr, pc⟩ := p
      simp only at hib hic p0 p1
      generalize idxP N (pr, pc) = K at hia hib HM
      have hwz : w.heap.size < wr.heap.size := by omega
      have hwz1 : w.heap.size + 1 < wr.heap.size := by omega
      have hbw := HBW.out
      clear hlm hmix hpc hk2
      go_wp2_with fail
      (go_at_call 91; go_call (at_any N N pr pc b o cp (N * N) K xs _ w.heap.size ((HRw.out).alloc (by omega) _) (by simp; omega) (by omega) hib hia (by omega)) as e2 w2 ⟨rfl, hb2⟩; obtain ⟨hc2, hf2⟩ := bcell hb2; have hB2 : Below w.heap.size w w2 := (below_then (by first | (go_grown; done) | (repeat (first | (with_reducible assumption) | (with_reducible exact Below.refl _ _) | (with_reducible refine below_drewN' ?_ _) | (with_reducible refine Below.drew ?_) | ((with_reducible refine Below.alloc ?_ ?_ _); rotate_left; focus (first | (simp; done) | (simp; omega) | omega)) | ((with_reducible refine Below.setCell ?_ ?_ _); rotate_left; focus (first | (simp; done) | (simp; omega) | omega))))) (by first | omega | (simp; done) | (simp; omega)) hb2); have hz2a : w.heap.size < w2.heap.size := (by have := hb2.size; first | omega | (simp at this; omega)); have hz2b : w.heap.size + 1 < w2.heap.size := (by have := hb2.size; first | omega | (simp at this; omega)))
      have HO2 := Lib.hid ((hown.out.keep ((Below.refl wr.heap.size wr).alloc (Nat.le_refl _) _)).keep hb2)
      obtain ⟨g', c', e', hB', hg', hc', hf'⟩ := HO2.out.row (by rw [HLM.out]; omega)
      obtain ⟨rfl, rfl⟩ : w.heap.size + 1 = g' ∧ M = c' := by
        simp only [Value.slice.injEq, Option.some.injEq, Addr.mk.injEq, and_true] at e'
        exact ⟨e'.1, e'.2.2⟩
      have hdk := hc' i (by rw [HLM.out]; exact hlt)
      have hfk := hf' i
      have HG2 := Lib.hid (grown_below (grown_alloc hgr.out _) hb2)
      clear hc' hf' e' hB' hc2 hf2
      go_wp2_with fail
      go_roundw
      case rel => exact ⟨i + 1, by omega, by go_num, Lib.hid (by rw [← HM.out]; exact Own.setn HLM.out HO2.out), Lib.hid (grown_set HG2.out _)⟩
      case measure => simp [intOf]; omega
    · have hkn : i = M := by omega
      have hfin := hown.out
      rw [hkn, List.take_of_length_le (by rw [HLA.out]; exact Nat.le_refl _), List.drop_of_length_le (by simp), List.append_nil] at hfin
      have HF := Lib.hid hfin
      clear hfin
      go_wp2_with fail
      go_ret
      exact ⟨_, rfl, HF.out.more (Nat.le_succ _), HBW.out⟩
end Go.Proofs.Yteghpageamehkaa
