/-
  The iterator over the order of a stream: its contract.
-/
import Derived.RangeFuncNested
import Derived.RangeFuncBound
import Derived.RangeFuncCalls
import Derived.RangeFuncLeaves
import Derived.Shelf.Abstract
import Derived.Shelf.RegionOpen
import Derived.WalkKit
import Derived.OwnWalkIn
import Derived.TacticsInMore
import Derived.LoopNIn
import Derived.LoopIn
import Derived.Test.YtbgcbjfimjfbpaaOrd
namespace Go.Proofs.Ytbgcbjfimjfbpaa
set_option linter.unusedSimpArgs false
open Go.RowKit Go.Shelf
attribute [local go_sem] Oper.semAt_some

abbrev OrdA (D C H : Nat) := { p : Nat × Nat // p.1 < C ∧ p.2 < shN D C p.1 + H }
def encO {D C H : Nat} (x : OrdA D C H) : Array Value := #[.int .i64 (x.1.1 : Nat), .int .i64 (x.1.2 : Nat)]
/-- What a round that goes on keeps: the layout's box. -/
def KpB (b : Nat) (W W' : World) : Prop := W'.heap[b]? = W.heap[b]?
theorem KpB.trans {b : Nat} {A B C : World} (h : KpB b A B) (k : KpB b B C) : KpB b A C := Eq.trans k h
abbrev layC (p k g : Int) (D H C : Nat) : Array Value := #[.int .i64 p, .int .i64 k, .int .i64 g, .int .i64 D, .int .i64 H, .int .i64 C]
theorem below_grown_none {w w' : World} (h : Below w.heap.size w w') : w.grownBy w' none := ⟨h.os, h.tape, h.output, h.size, fun k hk _ => h.block k hk⟩
theorem abide_below {α : Type} {B : Nat} {J : List α → World → Prop} (hJ : AbidesFrom B J) {pre : List α} {w w' : World} (h : J pre w) (hb : Below w.heap.size w w') : J pre w' :=
  hJ pre w w' none h (below_grown_none hb) (fun r e => by cases e)

theorem order_any (p k g : Int) (D C H : Nat) (w : World) :
    Calls Try.prog 105 #[.agg #[.int .i64 p, .int .i64 k, .int .i64 g, .int .i64 D, .int .i64 H, .int .i64 C]] w fun e w' =>
      e = .returned (.func (.func 115) #[] #[.pointer (some ⟨w.heap.size, 0, none⟩)]) ∧ w' = w.alloc (.cells (layC p k g D H C) 30) := by
  go_enter Try.func105, Try.ntmps105
  go_wp2_with fail
  go_ret
  exact ⟨rfl, rfl⟩

def LayAt (W : World) (b : Nat) (p k g : Int) (D H C : Nat) : Prop := W.heap[b]? = some (.cells (layC p k g D H C) 30)
theorem LayAt.cells {W : World} {b : Nat} {p k g : Int} {D H C : Nat} (h : LayAt W b p k g D H C) :
    W.cell? ⟨b, 0, none⟩ = some (.int .i64 p) ∧ W.cell? ⟨b, 1, none⟩ = some (.int .i64 k) ∧ W.cell? ⟨b, 2, none⟩ = some (.int .i64 g) ∧
    W.cell? ⟨b, 3, none⟩ = some (.int .i64 D) ∧ W.cell? ⟨b, 4, none⟩ = some (.int .i64 H) ∧ W.cell? ⟨b, 5, none⟩ = some (.int .i64 C) :=
  ⟨cell_of_row _ _ _ _ _ (0, 0) h, cell_of_row _ _ _ _ _ (0, 0) h, cell_of_row _ _ _ _ _ (0, 0) h, cell_of_row _ _ _ _ _ (0, 0) h, cell_of_row _ _ _ _ _ (0, 0) h, cell_of_row _ _ _ _ _ (0, 0) h⟩
theorem LayAt.below {W W' : World} {b : Nat} {p k g : Int} {D H C : Nat} (h : LayAt W b p k g D H C) (hb : Below W.heap.size W W') : LayAt W' b p k g D H C := (hb.block b (lt_of_block h)).trans h
theorem LayAt.kp {W W' : World} {b : Nat} {p k g : Int} {D H C : Nat} (h : LayAt W b p k g D H C) (hb : KpB b W W') : LayAt W' b p k g D H C := Eq.trans hb h
/-- Between two rounds: what has come, and the layout's box. -/
def OrdS {D C H : Nat} (J : List (OrdA D C H) → World → Prop) (b : Nat) (p k g : Int) (L : List (Nat × Nat)) (W : World) : Prop := (∃ pre : List (OrdA D C H), pre.map (·.1) = L ∧ J pre W) ∧ LayAt W b p k g D H C
theorem OrdS.to {D C H : Nat} {J : List (OrdA D C H) → World → Prop} {b : Nat} {p k g : Int} {L L' : List (Nat × Nat)} {W : World} (h : OrdS J b p k g L W) (e : L = L') : OrdS J b p k g L' W := e ▸ h

set_option maxRecDepth 100000 in
set_option maxHeartbeats 8000000 in
theorem order1_in (n : Nat) (hn : 2 ≤ n) (p k g : Int) (D C H : Nat) (hC : 1 ≤ C) (hC2 : C ≤ 16) (hD : D ≤ 1500) (hH : H ≤ 64) (l Bs B0 : Nat) (J Jx : List (OrdA D C H) → World → Prop) (hJ : AbidesFrom B0 J)
    (hY : ∀ pre x W, J pre W → pre.length < D + C * H → YieldAt Fence.wide (n - 1) Try.prog l (encO x) W fun e W' =>
      (e = .returned (.bool true) ∧ J (pre ++ [x]) W' ∧ KpB Bs W W') ∨ (e = .returned (.bool false) ∧ Jx (pre ++ [x]) W'))
    (W : World) (hBs : LayAt W Bs p k g D H C) (h0 : J [] W) :
    CallsIn Fence.wide n Try.prog 115 #[.func (.yield l) #[] #[], .pointer (some ⟨Bs, 0, none⟩)] W fun e W' => (∃ v, e = .returned v) ∧
      ((∃ ys : List (OrdA D C H), ys.map (·.1) = ordL D C H ∧ J ys W') ∨ (∃ pre : List (OrdA D C H), True ∧ Jx pre W')) := by
  have HSH := Lib.hid (fun b w (hb : b ≤ 16) => share_any p k g D H C b w hC hC2 hD hb)
  have HSL := Lib.hid (fun w => by have h := share_any p k g D H C (C - 1) w hC hC2 hD (by omega); rw [show ((C - 1 : Nat) : Int) = (C : Int) - 1 by omega] at h; exact h)
  have HK : ∀ (L : List (Nat × Nat)) (w w' : World), OrdS J Bs p k g L w → Below w.heap.size w w' → OrdS J Bs p k g L w' := fun L w w' h hb => by
    obtain ⟨⟨pre, h1, h2⟩, h3⟩ := h
    exact ⟨⟨pre, h1, abide_below hJ h2 hb⟩, h3.below hb⟩
  have hYY : ∀ (L : List (Nat × Nat)) (b e : Nat) (hbe : b < C ∧ e < shN D C b + H) (w : World), OrdS J Bs p k g L w → L.length < D + C * H → YieldAt Fence.wide (n - 1) Try.prog l #[.int .i64 (b : Nat), .int .i64 (e : Nat)] w fun e' W' =>
      (e' = .returned (.bool true) ∧ OrdS J Bs p k g (L ++ [(b, e)]) W') ∨ (e' = .returned (.bool false) ∧ ∃ pre, Jx pre W') := by
    rintro L b e hbe w ⟨⟨pre, h1, h2⟩, h3⟩ hl
    obtain ⟨fn, tmps, assign, body, hy, hR⟩ := hY pre ⟨(b, e), hbe⟩ w h2 (by rw [← h1, List.length_map] at hl; exact hl)
    refine ⟨fn, tmps, assign, body, hy, hR.mono ?_⟩
    rintro e' W' (⟨rfl, hj, hk⟩ | ⟨rfl, hj⟩)
    · exact .inl ⟨rfl, ⟨_, by rw [List.map_append, h1]; rfl, hj⟩, h3.kp hk⟩
    · exact .inr ⟨rfl, _, hj⟩
  have HSS : OrdS J Bs p k g [] W := ⟨⟨[], rfl, h0⟩, hBs⟩
  have HYY := Lib.hid hYY
  have HSW := Lib.hid HSS
  have hlng : lngN D C = shN D C (C - 1) := rfl
  obtain ⟨c0, c1, c2, c3, c4, c5⟩ := HSS.2.cells
  have hshl := fun b => (show shN D C b ≤ 1501 from by have := Nat.div_le_self D C; unfold shN; split <;> omega)
  have hL1 : lngN D C ≤ 1501 := hshl _
  have h1n : 1 ≤ n := by omega
  clear hY hJ h0 hBs HSS hYY
  refine callsIn_of_wp Try.func115 rfl trivial ?_ rfl
  simp only [Try.ntmps115, List.size_toArray, List.length_cons, List.length_nil, Nat.reduceAdd, Nat.reduceSub, Array.replicate_succ, Array.replicate_zero, List.push_toArray, List.append_toArray, List.nil_append, List.cons_append]
  rw [← hlng] at HSL
  generalize hL : lngN D C = L at *
  clear hlng
  have h1m : 1 ≤ n - 1 := by omega
  gi_wp2_with (refine ⟨trivial, ?_⟩; gi_at_call 103; refine (callsIn_wide.2 (HSL.out _)).mono ?_; rintro ea wa ⟨rfl, hba⟩; have HSa := Lib.hid (HK _ _ _ HSW.out hba); clear hba; obtain ⟨ca0, ca1, ca2, ca3, ca4, ca5⟩ := HSa.out.2.cells)
  clear c0 c1 c2 c3 c4 c5 ca0 ca1 ca2 ca3 ca4 ca5
  gi_loopw [4] (fun i wr => ∃ e : Nat, e ≤ L ∧ i = .int .i64 e ∧ Hid (OrdS J Bs p k g (ord1 D C e) wr)) (fun i _ => L - (intOf i).toNat)
  case atStart => exact ⟨0, Nat.zero_le _, rfl, HSa⟩
  case round =>
    obtain ⟨e, he, rfl, hS⟩ := hrel
    obtain ⟨c0, c1, c2, c3, c4, c5⟩ := hS.out.2.cells
    by_cases hlt : e < L
    · gi_wp2
      gi_loopw [5] (fun i wr => ∃ b : Nat, b ≤ C ∧ i = .int .i64 b ∧ Hid (OrdS J Bs p k g (ord1 D C e ++ row1 D C e b) wr)) (fun i _ => C - (intOf i).toNat)
      case atStart => exact ⟨0, Nat.zero_le _, rfl, Lib.hid (hS.out.to (by rw [row1_zero, List.append_nil]))⟩
      case round =>
        obtain ⟨b, hb, rfl, hT⟩ := hrel
        obtain ⟨d0, d1, d2, d3, d4, d5⟩ := hT.out.2.cells
        by_cases hbl : b < C
        · by_cases hes : e < shN D C b
          · have hlen : (ord1 D C e ++ row1 D C e b).length < D + C * H := by have := part1_lt hC (by rw [hL]; exact hlt) hbl hes; omega
            have hin : b < C ∧ e < shN D C b + H := ⟨hbl, by omega⟩
            have HN : Hid (ord1 D C e ++ row1 D C e b ++ [(b, e)] = ord1 D C e ++ row1 D C e (b + 1)) := Lib.hid (by rw [row1_yes hes, List.append_assoc])
            have hsb := hshl b
            have HL := Lib.hid hlen
            clear hlen
            gi_wp2_with (refine ⟨trivial, ?_⟩; gi_at_call 103; refine (callsIn_wide.2 (HSH.out b _ (by omega))).mono ?_; rintro eb wb ⟨rfl, hbb⟩; have HSb := Lib.hid (HK _ _ _ hT.out hbb); clear hbb; obtain ⟨cb0, cb1, cb2, cb3, cb4, cb5⟩ := HSb.out.2.cells; obtain ⟨fn, tmps, assign, body, hy, hR⟩ := HYY.out _ b e hin _ HSb.out HL.out; clear HYY)
            refine hR.mono ?_
            rintro e' W3 (⟨rfl, hS3⟩ | ⟨rfl, pre, hj⟩)
            · have HS3 := Lib.hid hS3
              clear hS3
              gi_wp2
              go_roundw
              case rel => exact ⟨b + 1, by omega, by go_num, Lib.hid (HS3.out.to HN.out)⟩
              case measure => simp [intOf]; omega
            · gi_wp2
              refine bodyPost_ret (results_none rfl _ _ _) rfl ?_
              exact ⟨⟨_, rfl⟩, .inr ⟨pre, trivial, hj⟩⟩
          · have HN : Hid (ord1 D C e ++ row1 D C e b = ord1 D C e ++ row1 D C e (b + 1)) := Lib.hid (by rw [row1_no hes])
            have hsb := hshl b
            gi_wp2_with (refine ⟨trivial, ?_⟩; gi_at_call 103; refine (callsIn_wide.2 (HSH.out b _ (by omega))).mono ?_; rintro eb wb ⟨rfl, hbb⟩; have HSb := Lib.hid (HK _ _ _ hT.out hbb); clear hbb; obtain ⟨cb0, cb1, cb2, cb3, cb4, cb5⟩ := HSb.out.2.cells)
            refine ⟨fun _ h => (by cases h), ?_⟩
            gi_wp2
            go_roundw
            case rel => exact ⟨b + 1, by omega, by go_num, Lib.hid (HSb.out.to HN.out)⟩
            case measure => simp [intOf]; omega
        · have hbC : b = C := by omega
          have HN : Hid (ord1 D C e ++ row1 D C e b = ord1 D C (e + 1)) := Lib.hid (by rw [hbC, ord1_succ])
          clear hbC
          gi_wp2
          go_roundw
          case rel => exact ⟨e + 1, by omega, by go_num, Lib.hid (hT.out.to HN.out)⟩
          case measure => simp [intOf]; omega
    · have heL : e = L := by omega
      have HT : Hid (OrdS J Bs p k g (ord1 D C (lngN D C) ++ ord2 D C 0) wr) := Lib.hid (hS.out.to (by rw [heL, hL, ord2_zero, List.append_nil]))
      clear heL hS
      gi_wp2
      gi_loopw [6] (fun i wr => ∃ e : Nat, e ≤ H ∧ i = .int .i64 e ∧ Hid (OrdS J Bs p k g (ord1 D C (lngN D C) ++ ord2 D C e) wr)) (fun i _ => H - (intOf i).toNat)
      case atStart => exact ⟨0, Nat.zero_le _, rfl, HT⟩
      case round =>
        clear c0 c1 c2 c3 c4 c5 HT hlt he
        obtain ⟨f, he, rfl, hS⟩ := hrel
        obtain ⟨c0, c1, c2, c3, c4, c5⟩ := hS.out.2.cells
        by_cases hlt : f < H
        · gi_wp2
          gi_loopw [7] (fun i wr => ∃ b : Nat, b ≤ C ∧ i = .int .i64 b ∧ Hid (OrdS J Bs p k g (ord1 D C (lngN D C) ++ (ord2 D C f ++ row2 D C f b)) wr)) (fun i _ => C - (intOf i).toNat)
          case atStart => exact ⟨0, Nat.zero_le _, rfl, Lib.hid (hS.out.to (by rw [row2_zero, List.append_nil]))⟩
          case round =>
            obtain ⟨b, hb, rfl, hT⟩ := hrel
            obtain ⟨d0, d1, d2, d3, d4, d5⟩ := hT.out.2.cells
            by_cases hbl : b < C
            · have hlen : (ord1 D C (lngN D C) ++ (ord2 D C f ++ row2 D C f b)).length < D + C * H := part2_lt hC hlt hbl
              have hin : b < C ∧ shN D C b + f < shN D C b + H := ⟨hbl, by omega⟩
              have HN : Hid (ord1 D C (lngN D C) ++ (ord2 D C f ++ row2 D C f b) ++ [(b, shN D C b + f)] = ord1 D C (lngN D C) ++ (ord2 D C f ++ row2 D C f (b + 1))) := Lib.hid (by rw [row2_succ]; simp only [List.append_assoc])
              have hsb := hshl b
              have HL := Lib.hid hlen
              clear hlen
              gi_wp2_with (refine ⟨trivial, ?_⟩; gi_at_call 103; refine (callsIn_wide.2 (HSH.out b _ (by omega))).mono ?_; rintro eb wb ⟨rfl, hbb⟩; have HSb := Lib.hid (HK _ _ _ hT.out hbb); clear hbb; obtain ⟨cb0, cb1, cb2, cb3, cb4, cb5⟩ := HSb.out.2.cells; obtain ⟨fn, tmps, assign, body, hy, hR⟩ := HYY.out _ b _ hin _ HSb.out HL.out; clear HYY; rw [Int.natCast_add] at hy)
              refine hR.mono ?_
              rintro e' W3 (⟨rfl, hS3⟩ | ⟨rfl, pre, hj⟩)
              · have HS3 := Lib.hid hS3
                clear hS3
                gi_wp2
                go_roundw
                case rel => exact ⟨b + 1, by omega, by go_num, Lib.hid (HS3.out.to HN.out)⟩
                case measure => simp [intOf]; omega
              · gi_wp2
                refine bodyPost_ret (results_none rfl _ _ _) rfl ?_
                exact ⟨⟨_, rfl⟩, .inr ⟨pre, trivial, hj⟩⟩
            · have hbC : b = C := by omega
              have HN : Hid (ord1 D C (lngN D C) ++ (ord2 D C f ++ row2 D C f b) = ord1 D C (lngN D C) ++ ord2 D C (f + 1)) := Lib.hid (by rw [hbC, ord2_succ])
              clear hbC
              gi_wp2
              go_roundw
              case rel => exact ⟨f + 1, by omega, by go_num, Lib.hid (hT.out.to HN.out)⟩
              case measure => simp [intOf]; omega
        · have heH : f = H := by omega
          have HF : Hid (OrdS J Bs p k g (ordL D C H) wr) := Lib.hid (hS.out.to (by rw [heH]; rfl))
          clear heH hS
          gi_wp2
          go_end0
          obtain ⟨⟨ys, h1, h2⟩, -⟩ := HF.out
          exact ⟨⟨_, rfl⟩, .inl ⟨ys, h1, h2⟩⟩

/-- The iterator's contract. -/
theorem order_stops (n : Nat) (hn : 2 ≤ n) (p k g : Int) (D C H : Nat) (hC : 1 ≤ C) (hC2 : C ≤ 16) (hD : D ≤ 1500) (hH : H ≤ 64) (Bs : Nat) (w : World) (hBs : LayAt w Bs p k g D H C) :
    SeqStopsK Fence.wide n Try.prog 115 #[.pointer (some ⟨Bs, 0, none⟩)] (encO (D := D) (C := C) (H := H)) (KpB Bs) (fun ys => ys.map (·.1) = ordL D C H) (fun _ => True) (D + C * H) w := fun l J Jx W hW hJ _ hY h0 =>
  order1_in n hn p k g D C H hC hC2 hD hH l Bs _ J Jx hJ hY W (hBs.below hW) h0
end Go.Proofs.Ytbgcbjfimjfbpaa
