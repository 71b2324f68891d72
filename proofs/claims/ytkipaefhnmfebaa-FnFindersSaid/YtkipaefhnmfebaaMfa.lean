/-
  The runs of a line, as the program lists them.
-/
import Derived.Test.YtkipaefhnmfebaaCore
import Derived.RangeFuncNested
import Derived.RangeFuncBound
import Derived.RangeFuncCalls
import Derived.RangeFuncLeaves
import Derived.Shelf.Abstract
import Derived.Shelf.RegionOpen
import Derived.WalkKit
import Derived.OwnWalkIn
import Derived.TacticsInMore
import Derived.LoopNIn
import Derived.LoopIn
import Derived.Test.YtkipaefhnmfebaaRegion
import Derived.Test.YtkipaefhnmfebaaSlice
import Derived.Test.YtkipaefhnmfebaaBlk
import Derived.Test.YtkipaefhnmfebaaToS
namespace Go.Proofs.Ytkipaefhnmfebaa
open Go.RowKit

structure RnT where
  s : Nat
  l : Nat
  d : Bool
  deriving DecidableEq
/-- Is cell i of a line dark? -/
def dkN (xs : List Int) (i : Nat) : Bool := nth xs i == 1
/-- One cell more. -/
def rnX (L : List RnT) (i : Nat) (d : Bool) : List RnT := match L.getLast? with
  | some r => if r.d = d then L.dropLast ++ [⟨r.s, r.l + 1, r.d⟩] else L ++ [⟨i, 1, d⟩]
  | none => [⟨i, 1, d⟩]
/-- The runs of the first i cells. -/
def rnS (xs : List Int) : Nat → List RnT
  | 0 => []
  | i + 1 => rnX (rnS xs i) i (dkN xs i)
theorem rnX_nil (i : Nat) (d : Bool) : rnX [] i d = [⟨i, 1, d⟩] := rfl
theorem rnX_same {L : List RnT} {r : RnT} {i : Nat} {d : Bool} (h : r.d = d) : rnX (L ++ [r]) i d = L ++ [⟨r.s, r.l + 1, r.d⟩] := by
  unfold rnX; rw [List.getLast?_append]; simp [h]
theorem rnX_other {L : List RnT} {r : RnT} {i : Nat} {d : Bool} (h : r.d ≠ d) : rnX (L ++ [r]) i d = L ++ [r] ++ [⟨i, 1, d⟩] := by
  unfold rnX; rw [List.getLast?_append]; simp [h]
theorem rnS_succ (xs : List Int) (i : Nat) : rnS xs (i + 1) = rnX (rnS xs i) i (dkN xs i) := rfl
theorem rnX_len (L : List RnT) (i : Nat) (d : Bool) : (rnX L i d).length ≤ L.length + 1 := by
  unfold rnX
  split
  · split
    · rw [List.length_append, List.length_dropLast]; simp
    · simp
  · simp
theorem rnS_len (xs : List Int) : ∀ i, (rnS xs i).length ≤ i
  | 0 => Nat.le_refl _
  | i + 1 => by rw [rnS_succ]; have := rnX_len (rnS xs i) i (dkN xs i); have := rnS_len xs i; omega
/-- The program's state at cell i: what has been yielded, and where the run began. -/
structure RnI (xs : List Int) (n i : Nat) (E : List RnT) (s : Nat) : Prop where
  le : s ≤ i ∧ i ≤ n
  now : i < n → rnS xs (i + 1) = E ++ [⟨s, i + 1 - s, dkN xs i⟩]
  fin : i = n → E = rnS xs n
theorem RnI.start (xs : List Int) (n : Nat) : RnI xs n 0 [] 0 := ⟨⟨Nat.le_refl _, Nat.zero_le _⟩, fun _ => rfl, fun h => by subst h; rfl⟩
theorem RnI.skip {xs : List Int} {n i s : Nat} {E : List RnT} (h : RnI xs n i E s) (hi : i + 1 < n) (hd : dkN xs i = dkN xs (i + 1)) : RnI xs n (i + 1) E s := by
  refine ⟨⟨by have := h.le; omega, by omega⟩, fun _ => ?_, fun he => by omega⟩
  rw [rnS_succ, h.now (by omega), rnX_same hd, hd]
  have := h.le
  rw [show i + 1 + 1 - s = i + 1 - s + 1 by omega]
theorem RnI.emit {xs : List Int} {n i s : Nat} {E : List RnT} (h : RnI xs n i E s) (hi : i < n) (hd : i + 1 < n → dkN xs i ≠ dkN xs (i + 1)) : RnI xs n (i + 1) (E ++ [⟨s, i + 1 - s, dkN xs i⟩]) (i + 1) := by
  refine ⟨⟨Nat.le_refl _, hi⟩, fun h2 => ?_, fun he => ?_⟩
  · rw [rnS_succ, h.now hi, rnX_other (hd h2)]
    rw [show i + 1 + 1 - (i + 1) = 1 by omega]
  · rw [← he, h.now hi]
theorem RnI.len {xs : List Int} {n i s : Nat} {E : List RnT} (h : RnI xs n i E s) (hi : i < n) : E.length < n := by
  have h1 := rnS_len xs (i + 1)
  rw [h.now hi, List.length_append] at h1
  simp at h1
  omega
end Go.Proofs.Ytkipaefhnmfebaa
namespace Go.Proofs.Ytkipaefhnmfebaa
set_option linter.unusedSimpArgs false
open Go.RowKit Go.Shelf
attribute [local go_sem] Oper.semAt_some

def runV (r : RnT) : Value := .agg #[.int .i64 (r.s : Nat), .int .i64 (r.l : Nat), .bool r.d]
/-- What a round that goes on keeps: the line and its box. -/
def KpR (n0 b : Nat) (W W' : World) : Prop := Below n0 W W' ∧ W'.heap[b]? = W.heap[b]?
theorem KpR.trans {n0 b : Nat} {A B C : World} (h : KpR n0 b A B) (k : KpR n0 b B C) : KpR n0 b A C := ⟨h.1.trans k.1, k.2.trans h.2⟩
theorem grown_of_below {w w' : World} (h : Below w.heap.size w w') : w.grownBy w' none := ⟨h.os, h.tape, h.output, h.size, fun k hk _ => h.block k hk⟩

theorem runs_any (A : Option Addr) (n cp : Nat) (w : World) :
    Calls Try.prog 112 #[.slice A n cp] w fun e w' =>
      e = .returned (.func (.func 116) #[] #[.pointer (some ⟨w.heap.size, 0, none⟩)]) ∧ w' = w.alloc (.cells #[.slice A n cp] 22) := by
  go_enter Try.func112, Try.ntmps112
  go_wp2_with fail
  go_ret
  exact ⟨rfl, rfl⟩

/-- Between two rounds: what has come, the box, the line. -/
structure RnQ (J : List RnT → World → Prop) (n0 b : Nat) (A : Option Addr) (n cp : Nat) (xs : List Int) (E : List RnT) (W : World) : Prop where
  j : J E W
  box : W.heap[b]? = some (.cells #[.slice A n cp] 22 (0, 0))
  line : RI W n0 A n xs
  le : n0 ≤ W.heap.size

set_option maxRecDepth 100000 in
set_option maxHeartbeats 8000000 in
theorem runs1_in (m : Nat) (hm : 2 ≤ m) (A : Option Addr) (n cp : Nat) (xs : List Int) (hn : n ≤ 1000000) (n0 l Bs B0 : Nat) (J Jx : List RnT → World → Prop) (hJ : AbidesFrom B0 J)
    (hY : ∀ pre x W, J pre W → pre.length < n → YieldAt Fence.wide (m - 1) Try.prog l #[runV x] W fun e W' =>
      (e = .returned (.bool true) ∧ J (pre ++ [x]) W' ∧ KpR n0 Bs W W') ∨ (e = .returned (.bool false) ∧ Jx (pre ++ [x]) W'))
    (W : World) (hS : RnQ J n0 Bs A n cp xs [] W) :
    CallsIn Fence.wide m Try.prog 116 #[.func (.yield l) #[] #[], .pointer (some ⟨Bs, 0, none⟩)] W fun e W' => (∃ v, e = .returned v) ∧
      ((∃ ys : List RnT, ys = rnS xs n ∧ J ys W') ∨ (∃ pre : List RnT, True ∧ Jx pre W')) := by
  have HYY := Lib.hid (fun (E : List RnT) (x : RnT) (w : World) (hs : RnQ J n0 Bs A n cp xs E w) (hl : E.length < n) => by
    obtain ⟨fn, tmps, assign, body, hy, hR⟩ := hY E x w hs.j hl
    exact (⟨fn, tmps, assign, body, hy, hR.mono (by
      rintro e' W' (⟨rfl, hj, hk⟩ | ⟨rfl, hj⟩)
      · exact .inl ⟨rfl, ⟨hj, hk.2.trans hs.box, hs.line.below hk.1, Nat.le_trans hs.le hk.1.size⟩⟩
      · exact .inr ⟨rfl, _, hj⟩)⟩ : YieldAt Fence.wide (m - 1) Try.prog l #[runV x] w fun e' W' => (e' = .returned (.bool true) ∧ RnQ J n0 Bs A n cp xs (E ++ [x]) W') ∨ (e' = .returned (.bool false) ∧ ∃ pre, Jx pre W')))
  have HD := Lib.hid (fun (E : List RnT) (w : World) (q : Nat) (hs : RnQ J n0 Bs A n cp xs E w) => (⟨hJ _ _ _ none hs.j (grown_of_below (below_drewN' (Below.refl _ w) q)) (fun r e => by cases e), hs.box, hs.line.below (below_drewN' (Below.refl _ _) q), hs.le⟩ : RnQ J n0 Bs A n cp xs E (w.drewN q)))
  have HS0 := Lib.hid hS
  have hb0 := cell_of_row _ _ 0 _ _ (0, 0) hS.box
  simp only [List.getElem?_toArray, List.getElem?_cons_zero] at hb0
  have h1n : 1 ≤ m := by omega
  have h1m : 1 ≤ m - 1 := by omega
  clear hY hJ hS
  refine callsIn_of_wp Try.func116 rfl trivial ?_ rfl
  simp only [Try.ntmps116, List.size_toArray, List.length_cons, List.length_nil, Nat.reduceAdd, Nat.reduceSub, Array.replicate_succ, Array.replicate_zero, List.push_toArray, List.append_toArray, List.nil_append, List.cons_append]
  gi_wp2
  gi_loopw [3, 7] (fun q i wr => ∃ (k s : Nat) (E : List RnT), i = .int .i64 k ∧ q = .int .i64 s ∧ Hid (RnI xs n k E s) ∧ Hid (RnQ J n0 Bs A n cp xs E wr)) (fun _ i _ => n - (intOf i).toNat)
  case atStart => exact ⟨0, 0, [], rfl, rfl, Lib.hid (RnI.start _ _), HS0⟩
  case round =>
    clear HS0 hb0
    obtain ⟨k, s, E, rfl, rfl, HI, HS⟩ := hrel
    have hb := cell_of_row _ _ 0 _ _ (0, 0) HS.out.box
    simp only [List.getElem?_toArray, List.getElem?_cons_zero] at hb
    have hk := HI.out.le
    by_cases hlt : k < n
    · obtain ⟨b1, o1, rfl, hb1, hc1⟩ := HS.out.line.cells (by omega)
      have hx0 := hc1 k hlt
      have hle := HS.out.le
      have hbs := lt_of_block HS.out.box
      have hb1w : b1 < wr.heap.size := by omega
      by_cases hn1 : k + 1 < n
      · have hd1 : decide (k + 1 < n) = true := decide_eq_true hn1
        have hd2 : decide ((k : Int) + 1 < (n : Int)) = true := decide_eq_true (by omega)
        have hx1 := hc1 (k + 1) hn1
        have e0 : (nth xs k == 1) = dkN xs k := rfl
        have e1 : (nth xs (k + 1) == 1) = dkN xs (k + 1) := rfl
        have HDK := Lib.hid (Eq.refl (dkN xs k))
        by_cases hdd : dkN xs k = dkN xs (k + 1)
        · have HN := Lib.hid (HI.out.skip hn1 hdd)
          generalize nth xs k = x0 at *
          generalize nth xs (k + 1) = x1 at *
          have hee : ((x0 == 1) == (x1 == 1)) = true := by rw [e0, e1, hdd]; simp
          clear hc1 e0 e1 hdd
          gi_wp2
          refine wpIn_wide.2 ?_
          go_quiet (fail)
          gi_wp2
          go_roundw
          case rel => exact ⟨k + 1, s, E, by go_num, rfl, HN, Lib.hid (HD.out E wr nq HS.out)⟩
          case measure => simp [intOf]; omega
        · have HN := Lib.hid (HI.out.emit hlt (fun _ => hdd))
          have hee : ((nth xs k == 1) == (nth xs (k + 1) == 1)) = false := by rw [e0, e1]; simpa using hdd
          generalize nth xs k = x0 at *
          generalize nth xs (k + 1) = x1 at *
          have HE0 := Lib.hid e0
          clear hc1 e0 e1 hdd
          have HE := Lib.hid (HI.out.len hlt)
          have hcast : ((k + 1 - s : Nat) : Int) = (k : Int) + 1 - s := by omega
          gi_wp2
          refine wpIn_wide.2 ?_
          go_quiet (fail)
          obtain ⟨fn, tmps, assign, body, hy, hR⟩ := HYY.out E ⟨s, k + 1 - s, dkN xs k⟩ _ (HD.out E wr nq HS.out) HE.out
          unfold runV at hy
          simp only [] at hy
          rw [hcast, ← HE0.out] at hy
          gi_wp2
          refine hR.mono ?_
          rintro e' W3 (⟨rfl, hS3⟩ | ⟨rfl, pre, hj⟩)
          · have HS3 := Lib.hid hS3
            clear hS3
            gi_wp2
            go_roundw
            case rel => exact ⟨k + 1, k + 1, _, by go_num, by go_num, HN, HS3⟩
            case measure => simp [intOf]; omega
          · gi_wp2
            refine bodyPost_ret (results_none rfl _ _ _) rfl ?_
            exact ⟨⟨_, rfl⟩, .inr ⟨pre, trivial, hj⟩⟩
      · have hd1 : decide (k + 1 < n) = false := decide_eq_false hn1
        have hd2 : decide ((k : Int) + 1 < (n : Int)) = false := decide_eq_false (by omega)
        have e0 : (nth xs k == 1) = dkN xs k := rfl
        have HN := Lib.hid (HI.out.emit hlt (fun h => absurd h hn1))
        generalize nth xs k = x0 at *
        have HE0 := Lib.hid e0
        clear hc1 e0
        have HE := Lib.hid (HI.out.len hlt)
        have hcast : ((k + 1 - s : Nat) : Int) = (k : Int) + 1 - s := by omega
        gi_wp2
        refine wpIn_wide.2 ?_
        go_quiet (fail)
        obtain ⟨fn, tmps, assign, body, hy, hR⟩ := HYY.out E ⟨s, k + 1 - s, dkN xs k⟩ _ (HD.out E wr nq HS.out) HE.out
        unfold runV at hy
        simp only [] at hy
        rw [hcast, ← HE0.out] at hy
        gi_wp2
        refine hR.mono ?_
        rintro e' W3 (⟨rfl, hS3⟩ | ⟨rfl, pre, hj⟩)
        · have HS3 := Lib.hid hS3
          clear hS3
          gi_wp2
          go_roundw
          case rel => exact ⟨k + 1, k + 1, _, by go_num, by go_num, HN, HS3⟩
          case measure => simp [intOf]; omega
        · gi_wp2
          refine bodyPost_ret (results_none rfl _ _ _) rfl ?_
          exact ⟨⟨_, rfl⟩, .inr ⟨pre, trivial, hj⟩⟩
    · have HF : Hid (E = rnS xs n) := Lib.hid (HI.out.fin (by omega))
      gi_wp2
      go_end0
      exact ⟨⟨_, rfl⟩, .inl ⟨E, HF.out, HS.out.j⟩⟩

/-- The iterator's contract. -/
theorem runs_stops (m : Nat) (hm : 2 ≤ m) (A : Option Addr) (n cp : Nat) (xs : List Int) (hn : n ≤ 1000000) (n0 Bs : Nat) (w : World) (hB : w.heap[Bs]? = some (.cells #[.slice A n cp] 22 (0, 0))) (hr : RI w n0 A n xs) (h0 : n0 ≤ w.heap.size) :
    SeqStopsK Fence.wide m Try.prog 116 #[.pointer (some ⟨Bs, 0, none⟩)] (fun r => #[runV r]) (KpR n0 Bs) (fun ys => ys = rnS xs n) (fun _ => True) n w := fun l J Jx W hW hJ _ hY hj =>
  runs1_in m hm A n cp xs hn n0 l Bs _ J Jx hJ hY W ⟨hj, (hW.block _ (lt_of_block hB)).trans hB, hr.below (hW.mono h0), Nat.le_trans h0 hW.size⟩
end Go.Proofs.Ytkipaefhnmfebaa
namespace Go.Proofs.Ytkipaefhnmfebaa
set_option linter.unusedSimpArgs false
open Go.RowKit Go.Shelf
attribute [local go_sem] Oper.semAt_some

def runC (r : RnT) : List Value := [.int .i64 (r.s : Nat), .int .i64 (r.l : Nat), .bool r.d]
def flatC (L : List RnT) : List Value := L.flatMap runC
theorem flatC_snoc (L : List RnT) (r : RnT) : flatC (L ++ [r]) = flatC L ++ runC r := by unfold flatC; simp
/-- The slice value v owns the runs L. -/
def OwnR (w : World) (B : Nat) (v : Value) (L : List RnT) : Prop := w.ownsRow B 115 3 v L.length (flatC L)
def SameR (w w' : World) : Prop := ∀ (b t : Nat) (cs : Array Value), w.heap[b]? = some (.cells cs t (0, 0)) → w'.heap[b]? = some (.cells cs t (0, 0))
theorem OwnR.same {w w' : World} {B : Nat} {v : Value} {L : List RnT} (h : OwnR w B v L) (hs : SameR w w') : OwnR w' B v L := by
  refine ⟨h.1, ?_⟩
  rcases h.2 with h' | ⟨g, cap, cur, e, hB, hg, hr⟩
  · exact .inl h'
  · exact .inr ⟨g, cap, cur, e, hB, hs _ _ _ hg, hr⟩
theorem sameR_kept {W W' : World} {row : Option Nat} (hg : W.grownBy W' row) (hr : ∀ r, row = some r → ∃ o : Obj, W.heap[r]? = some o ∧ o.isCells = false) : SameR W W' :=
  fun _ _ _ h => (grownBy_keeps_cells hg hr h rfl).trans h
theorem sameR_below {W W' : World} (hb : Below W.heap.size W W') : SameR W W' := fun b _ _ h => (hb.block b (lt_of_block h)).trans h
theorem OwnR.empty {w : World} {B : Nat} (hB : B ≤ w.heap.size) : OwnR (w.alloc (.cells #[] 115)) B (.slice (some ⟨w.heap.size, 0, none⟩) 0 0) [] := by
  have := World.ownsRow_made (e := 115) (size := 3) (base := B) w #[] 0 hB (by unfold maxLen; omega) rfl
  simpa [OwnR, flatC] using this
theorem info_runs : (Try.prog.info? 115).map (fun i => (i.zero, i.size, i.bytes)) = some (some (.agg #[.int .i64 0, .int .i64 0, .bool false]), 3, 24) := by kernel_rfl
theorem RoS_same {w W W' : World} {A : Option Addr} {n cp : Nat} {pre : List RnT} (h1 : W.heap[w.heap.size + 1 + 1]? = some (.cells #[.slice A n cp] 22 (0, 0)))
    (h2 : ∃ v, W.heap[w.heap.size + 1]? = some (.cells #[v] 121 (0, 0)) ∧ OwnR W w.heap.size v pre) (hs : SameR W W') :
    W'.heap[w.heap.size + 1 + 1]? = some (.cells #[.slice A n cp] 22 (0, 0)) ∧ ∃ v, W'.heap[w.heap.size + 1]? = some (.cells #[v] 121 (0, 0)) ∧ OwnR W' w.heap.size v pre := by
  obtain ⟨v, h3, h4⟩ := h2
  exact ⟨hs _ _ _ h1, v, hs _ _ _ h3, h4.same hs⟩
theorem grown1 {w w' : World} {B e t b n sz : Nat} {v : Value} {xs : List Value} {cs : Array Value} {o1 : Obj} (h1 : w.ownsRow B e sz v n xs) (hg : (w.alloc o1).grownBy w' v.ownBlock) (hb : w.heap[b]? = some (.cells cs t (0, 0))) (ht : t ≠ e) : w'.heap[b]? = some (.cells cs t (0, 0)) := by
  have hlt := lt_of_block hb
  refine (hg.block b (by simp; omega) ?_).trans ((Below.heap_alloc _ _ _ hlt).trans hb)
  rcases h1.2 with ⟨rfl, _⟩ | ⟨g, cap, cur, rfl, hB, hh, _⟩
  · simp [Value.ownBlock]
  · simp only [Value.ownBlock, ne_eq, Option.some.injEq]
    rintro rfl
    rw [hb] at hh
    simp at hh
    exact ht hh.2
theorem keeps1 {w w' : World} {B D e n sz : Nat} {v : Value} {xs : List Value} {o1 : Obj} (h1 : w.ownsRow B e sz v n xs) (hg : (w.alloc o1).grownBy w' v.ownBlock) : KeepsFrom D w w' := by
  refine ((KeepsOthers.alloc w o1).trans (KeepsOthers.of_grownBy hg (fun j o hj ho => ?_))).from _
  rcases h1.2 with ⟨rfl, _⟩ | ⟨g, cap, cur, rfl, hB, hh, _⟩
  · simp [Value.ownBlock] at hj
  · simp only [Value.ownBlock, Option.some.injEq] at hj
    subst hj
    rw [Below.heap_alloc _ _ _ (lt_of_block hh), hh] at ho
    cases ho; rfl
theorem news_runs {w : World} (cs : List Value) (t g : Nat) (hg : g = w.heap.size) : ∀ j u, cs[j]? = some u → (w.alloc (.cells cs.toArray t)).cell? ((⟨g, 0, none⟩ : Addr).add j) = some u := by
  intro j u hj
  subst hg
  have hadd : (⟨w.heap.size, 0, none⟩ : Addr).add j = ⟨w.heap.size, j, none⟩ := by unfold Addr.add; split <;> simp_all
  rw [hadd, cell_of_row _ _ j cs.toArray t (0, 0) (heap_alloc_new w _)]
  simpa using hj
theorem runC_ok (r : RnT) : ∀ u ∈ runC r, u.oneCell' = true := by
  intro u hu; simp [runC] at hu; rcases hu with rfl | rfl | rfl <;> rfl
/-- Between two rounds. -/
structure RoS (w : World) (A : Option Addr) (n cp : Nat) (pre : List RnT) (W : World) : Prop where
  line : W.heap[w.heap.size + 1 + 1]? = some (.cells #[.slice A n cp] 22 (0, 0))
  out : ∃ v, W.heap[w.heap.size + 1]? = some (.cells #[v] 121 (0, 0)) ∧ OwnR W w.heap.size v pre
  bel : Below w.heap.size w W
set_option maxRecDepth 100000 in
set_option maxHeartbeats 8000000 in
theorem runsOf_any (A : Option Addr) (n cp : Nat) (xs : List Int) (w : World) (hr : RI w w.heap.size A n xs) (hn : n ≤ 1000000) :
    Calls Try.prog 104 #[.slice A n cp] w fun e w' => ∃ v, e = .returned v ∧ OwnR w' w.heap.size v (rnS xs n) ∧ Below w.heap.size w w' := by
  obtain ⟨i0, hi⟩ := info_own' info_runs
  have HI := Lib.hid (And.intro i0.bytes.le_refl hi)
  clear hi
  refine (callsIn_wide (n := 8)).1 ?_
  refine callsIn_of_wp_marks Try.func104 rfl trivial ?_ rfl
  simp only [Try.ntmps104, List.size_toArray, List.length_cons, List.length_nil, Nat.reduceAdd, Nat.reduceSub, Array.replicate_succ, Array.replicate_zero, List.push_toArray, List.append_toArray, List.nil_append, List.cons_append]
  refine wpIn_wide.2 ?_
  go_wp2_with (go_at_call 112; refine (runs_any A n cp _).mono ?_; rintro e1 w1 ⟨rfl, rfl⟩)
  obtain ⟨W1, hW1⟩ : ∃ W1, ((w.alloc (.cells #[] 115)).alloc (.cells #[.slice (some ⟨w.heap.size, 0, none⟩) 0 0] 121)).alloc (.cells #[.slice A n cp] 22) = W1 := ⟨_, rfl⟩
  have hS0 : RoS w A n cp [] W1 := by
    subst hW1
    refine ⟨heap_alloc_at (by simp), ⟨_, (Below.heap_alloc _ _ _ (by simp)).trans (heap_alloc_at (by simp)), ?_⟩, by go_grown⟩
    exact World.ownsRow.alloc (World.ownsRow.alloc (OwnR.empty (Nat.le_refl _)) _) _
  have hsz : W1.heap.size = w.heap.size + 1 + 1 + 1 := by rw [← hW1]; simp
  rw [hW1]
  clear hW1
  refine (wpIn_wide (n := 8)).1 ?_
  refine wpIn_rangeFunc_ownH (F := Fence.wide) rfl (by omega) (gf := 116) (lb := #[.pointer (some ⟨w.heap.size + 1 + 1, 0, none⟩)]) rfl trivial (enters_of Try.func116 (by kernel_rfl) rfl)
    (runs_stops 7 (by omega) A n cp xs hn w.heap.size (w.heap.size + 1 + 1) W1 hS0.line (hr.below hS0.bel) (by omega)) KpR.trans ?hKb (Below.refl _ _) (fun _ => rfl)
    (fun pre W => RoS w A n cp pre W) (fun _ _ _ => False) ?hI (fun _ _ _ _ _ h _ _ => h) hS0
    (fun x a' W => ∃ Bx, w.heap.size + 1 + 1 < Bx ∧ W.heap[Bx]? = some (.cells #[.int .i64 (x.s : Nat), .int .i64 (x.l : Nat), .bool x.d] 115 (0, 0)) ∧ a' = { tmps := #[.slice A n cp, undef, .slice none 0 0, .pointer (some ⟨w.heap.size + 1, 0, none⟩), .pointer (some ⟨Bx, 0, none⟩), .slice (some ⟨w.heap.size, 0, none⟩) 0 0, .slice A n cp, .func (.func 116) #[] #[.pointer (some ⟨w.heap.size + 1 + 1, 0, none⟩)], runV x, undef, undef, undef, undef, undef], defers := [] })
    ?hAx ?assign ?body ?done ?stop
  case hKb =>
    intro W l o o' hl ho hc _
    exact ⟨(Below.refl _ W).grown (grownBy_putObj' W l o') (by have := (Array.getElem?_eq_some_iff.1 ho).1; omega) (fun k e => by cases e; omega), World.putObj_heap_other (by omega)⟩
  case hI =>
    intro s A' B' row hs hg hr'
    have h := RoS_same hs.line hs.out (sameR_kept hg (fun r e => (hr' r e).2))
    exact ⟨h.1, h.2, ownFrom_below (β := Unit) (Nat.le_refl _) (by omega) () A' B' row hs.bel hg hr'⟩
  case hAx =>
    rintro x a' _ A' B' row ⟨Bx, h1, h2, h3⟩ hg hr'
    exact ⟨Bx, h1, sameR_kept hg (fun r e => (hr' r e).2) _ _ _ h2, h3⟩
  case assign =>
    rintro l pre x W K hS hK
    have hlt := lt_of_block hS.line
    simp only [runV]
    gi_wp2
    have hb : Below W.heap.size W (W.alloc (.cells #[.int .i64 (x.s : Nat), .int .i64 (x.l : Nat), .bool x.d] 115)) := (Below.refl _ _).alloc (Nat.le_refl _) _
    have h := RoS_same hS.line hS.out (sameR_below hb)
    exact hK _ _ ((KeepsOthers.alloc _ _).from _) ⟨hb.mono hS.bel.size, hb.block _ hlt⟩ ⟨h.1, h.2, hS.bel.trans (hb.mono hS.bel.size)⟩ ⟨W.heap.size, hlt, heap_alloc_new _ _, rfl⟩
  case body =>
    rintro l pre x a' W hl - hS ⟨Bx, hBx, hX, rfl⟩ hlen
    obtain ⟨v, hv, hown⟩ := hS.out
    have c0 := cell_of_row _ _ 0 _ _ (0, 0) hX
    have c1 := cell_of_row _ _ 1 _ _ (0, 0) hX
    have c2 := cell_of_row _ _ 2 _ _ (0, 0) hX
    have cv := cell_of_row _ _ 0 _ _ (0, 0) hv
    simp only [List.getElem?_toArray, List.getElem?_cons_zero, List.getElem?_cons_succ] at c0 c1 c2 cv
    have hlv := lt_of_block hv
    have HOWN := Lib.hid hown
    have HS := Lib.hid hS
    have HV := Lib.hid hv
    clear hX hS hown hv
    gi_wp2_with (gi_at_builtin; refine wpListIn_append_own _ rfl _ _ 121 rfl w.heap.size 115 i0 (.agg #[.int .i64 0, .int .i64 0, .bool false]) 3 24 Try.underlying121 HI.out.2.1 HI.out.2.2.1 HI.out.2.2.2.1 HI.out.2.2.2.2 rfl (by decide) v pre.length (flatC pre) rfl (World.ownsRow.alloc HOWN.out _) ⟨W.heap.size, 0, none⟩ 1 1 (runC x) rfl rfl (news_runs _ _ _ rfl) (runC_ok x) (by unfold maxLen; omega) (by omega) (by have := HS.out.bel.size; simp; omega) ?_; intro v' wa hown' hgrow _; obtain ⟨g', cap', rfl⟩ := ownsRow_succ hown'; have HO' := Lib.hid hown'; have HG := Lib.hid hgrow; have HVA := Lib.hid (grown1 HOWN.out hgrow HV.out (by decide)); have HLA := Lib.hid (grown1 HOWN.out hgrow HS.out.line (by decide)); have cva := cell_of_row _ _ 0 _ _ (0, 0) HVA.out; have fva := blk_frozen HVA.out 0; simp only [List.getElem?_toArray, List.getElem?_cons_zero] at cva; clear hown' hgrow)
    have hbel : Below w.heap.size w wa := (HS.out.bel.alloc HS.out.bel.size _).grown HG.out (by have := HS.out.bel.size; simp; omega) (fun k hk => (World.ownsRow.lt HOWN.out k hk).1)
    have hb2 : Below w.heap.size W wa := ((Below.refl _ W).alloc HS.out.bel.size _).grown HG.out (by have := HS.out.bel.size; simp; omega) (fun k hk => (World.ownsRow.lt HOWN.out k hk).1)
    have hlin : (wa.setCell ⟨w.heap.size + 1, 0, none⟩ (.slice (some ⟨g', 0, none⟩) (pre.length + 1) cap')).heap[w.heap.size + 1 + 1]? = _ := (Below.heap_setCell _ _ _ _ (by show w.heap.size + 1 + 1 ≠ w.heap.size + 1; omega)).trans HLA.out
    refine ⟨(keeps1 HOWN.out HG.out).trans ((KeepsOthers.setCell _ _ _).from _), ⟨hb2.setCell (p := ⟨w.heap.size + 1, 0, none⟩) (by show w.heap.size ≤ w.heap.size + 1; omega) _, hlin.trans HS.out.line.symm⟩, hlin, ⟨.slice (some ⟨g', 0, none⟩) (pre.length + 1) cap', ?_, ?_⟩, hbel.setCell (p := ⟨w.heap.size + 1, 0, none⟩) (by show w.heap.size ≤ w.heap.size + 1; omega) _⟩
    · have := blk3_set (k := 0) (u := (.slice (some ⟨g', 0, none⟩) (pre.length + 1) cap')) HVA.out
      rw [this]; rfl
    · have h1 : OwnR wa w.heap.size (.slice (some ⟨g', 0, none⟩) (pre.length + 1) cap') (pre ++ [x]) := by
        have := HO'.out
        unfold OwnR
        rw [flatC_snoc, List.length_append, List.length_singleton]
        exact this
      refine ⟨h1.1, ?_⟩
      rcases h1.2 with h' | ⟨g, cap, cur, e, hB, hg, hr'⟩
      · exact .inl h'
      · refine .inr ⟨g, cap, cur, e, hB, (Below.heap_setCell _ _ _ _ ?_).trans hg, hr'⟩
        intro e2
        simp only at e2
        rw [e2, HVA.out] at hg
        simp at hg
  case done =>
    rintro E ys W hE rfl hS hKE
    obtain ⟨v, hv, hown⟩ := hS.out
    have cv := cell_of_row _ _ 0 _ _ (0, 0) hv
    simp only [List.getElem?_toArray, List.getElem?_cons_zero] at cv
    have HOWN := Lib.hid hown
    have HB := Lib.hid hS.bel
    have hs1 := hS0.bel.size
    clear hv hown hS
    go_wp2_with fail
    refine ⟨by simp, .inl ⟨_, _, rfl, run_takeDeferred hKE, ?_⟩⟩
    refine ⟨_, results_tmp rfl _ _ _, _, rfl, ?_, ?_⟩
    · exact HOWN.out.same (sameR_kept (grownBy_putObj' _ _ _) (fun r e => by cases e; exact ⟨_, hKE, rfl⟩))
    · exact HB.out.trans (belowK_b (w := w) (Nat.le_refl _) W E _ _ (by omega) hKE rfl rfl)
  case stop =>
    rintro D c pre W _ _ h _
    exact h.elim
end Go.Proofs.Ytkipaefhnmfebaa
