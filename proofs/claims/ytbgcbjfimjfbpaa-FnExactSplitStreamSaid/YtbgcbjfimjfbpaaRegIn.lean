/-
  A region that draws its order, in a round of a loop over a function (the wide fence): by the theorem of XRegion.
-/
import Derived.RangeFuncNested
import Derived.OrdersIn
import Derived.Test.YtbgcbjfimjfbpaaRegion
namespace Go.Proofs.Ytbgcbjfimjfbpaa
set_option linter.unusedSimpArgs false
open Go.RowKit

section
variable {P : Program} {ops : Array Oper} {W : World} {cs : List Tmp}
theorem wpAny_qat {Q : Exit → Act → World → Prop} {a : Act} {l : List Oper} (cs : List Tmp) (na : Nat) (ms : List Mkr) (hB : qatB cs l.toArray na = true)
    (h : (∀ (z : Blur W) (b o : Nat), b < W.heap.size → (blur z).cell? ⟨b, o, none⟩ = W.cell? ⟨b, o, none⟩) →
      wpQ P cs l.toArray W (fun aq => mkSpec P cs W aq (l.take na) ms ∧ mkGo cs W (fun acc w' => wpList P l.toArray Q (l.drop na) acc w') (l.take na) ms aq (fun _ => True) []) (l.take na) a) :
    wpAny P .any l.toArray Q l.toArray.size (Array.replicate l.toArray.size false) a { W with drawn := W.drawn + 1 } := by
  have hB0 := hB
  simp only [qatB, Bool.and_eq_true, decide_eq_true_eq, List.all_eq_true, List.mem_range] at hB
  obtain ⟨⟨⟨⟨⟨hsel, hna⟩, hhead⟩, hpair⟩, _⟩, hseq⟩ := hB
  have hna' : na ≤ l.length := by simpa using hna
  have hlt : (l.take na).length = na := by simp; omega
  have h' := h (fun z b o hb => z.below.cell (p := ⟨b, o, none⟩) hb)
  have e0 : canon l.toArray a (fun j => decide (j < 0) && !mkAt cs l.toArray j) (fun _ => undef) na = a := by
    have : ∀ m, canon l.toArray a (fun j => decide (j < 0) && !mkAt cs l.toArray j) (fun _ => undef) m = a := by
      intro m
      induction m with
      | zero => rfl
      | succ m ih =>
        unfold canon
        cases (l.toArray)[m]? with
        | none => exact ih
        | some o => simpa using ih
    exact this na
  have hidx : ∀ j, j < (l.take na).length → (l.take na)[j]? = l.toArray[0 + j]? := fun j hj => by
    rw [hlt] at hj
    simp [hj]
  obtain ⟨V, hY, hsp, hgo⟩ := wpQ_index (P := P) (cs := cs) (ops := l.toArray) (W := W) (a0 := a) (na := na) (l.take na) 0 (fun _ => undef) hidx (by rw [hlt]; omega) (fun i o hi => absurd hi (by omega)) (by rw [e0]; exact h')
  have key := any_of_inv (P := P) (cs := cs) (ops := l.toArray) (W := W) (a0 := a) (na := na) (Q := Q) hB0 V (fun k => msAt cs (l.take na) ms k) hY
    (fun i o hi ho hmk z => mkSpec_at (l.take na) ms hsp i o (by have := hidx i (by rw [hlt]; exact hi); rw [Nat.zero_add] at this; rw [this]; exact ho) hmk z)
    (fun g w' hF => ?_) na (Array.replicate l.toArray.size false) (fun _ => (undef, 0, 0)) { W with drawn := W.drawn + 1 } ?_ ?_ ?_
  · have hsz : na + (l.toArray.size - na) = l.toArray.size := by omega
    rw [hsz] at key
    have e1 : canon l.toArray a (fun k => (Array.replicate l.toArray.size false).getD k false) (valOf cs l.toArray V fun _ => (undef, 0, 0)) na = a := by
      have : ∀ m, canon l.toArray a (fun k => (Array.replicate l.toArray.size false).getD k false) (valOf cs l.toArray V fun _ => (undef, 0, 0)) m = a := by
        intro m
        induction m with
        | zero => rfl
        | succ m ih =>
          unfold canon
          rw [getD_replicate_false]
          cases (l.toArray)[m]? with
          | none => exact ih
          | some o => simpa using ih
      exact this na
    rw [e1] at key
    exact key
  · -- the tail
    have hfin := mkGo_index (P := P) (cs := cs) (aq := canon l.toArray a (fun j => !mkAt cs l.toArray j) V na) (a0 := a) (V := V) (K := fun acc w' => wpList P l.toArray Q (l.drop na) acc w') hpair hF (l.take na) 0 ms (fun _ => True) [] hidx (by rw [hlt]; omega) hsp
      (fun j o hj hmk => by rw [Nat.zero_add]) (fun x hx => by cases hx) trivial (by
        have e2 : canon l.toArray a (fun j => !mkAt cs l.toArray j || decide (j < 0)) (valOf cs l.toArray V g) na = canon l.toArray a (fun j => !mkAt cs l.toArray j) V na :=
          canon_congr na (fun j _ => by simp) (fun j _ hj => by
            have : mkAt cs l.toArray j = false := by simpa using hj
            simp [valOf, this])
        rw [e2]; exact hgo)
    have hdl : (l.drop na).length = l.toArray.size - na := by simp
    have := wpAny_of_seq (P := P) (md := .any) (Q' := Q) (l.drop na) na ((List.replicate na true ++ List.replicate (l.toArray.size - na) false).toArray) _ w' (fun j => by simp [List.getElem?_drop]) (by rw [hdl]; exact hseq) hfin
    rw [hdl] at this
    exact this
  · have : ∀ n, n ≤ l.toArray.size → toCome (Array.replicate l.toArray.size false) n = n := by
      intro n
      induction n with
      | zero => intro _; rfl
      | succ n ih =>
        intro hn
        unfold toCome
        rw [ih (by omega)]
        have : (Array.replicate l.toArray.size false).getD n true = false := by
          rw [Array.getD_eq_getD_getElem?]
          simp
          have : n < l.length := by have h := hn; simp at h; omega
          simp [this]
        rw [this]; rfl
    exact this na hna
  · exact ⟨by simp, fun j oj _ hl => (by rw [getD_replicate_false] at hl; cases hl), fun t _ ht => getD_in (by simpa using ht) (getD_replicate_false _ _)⟩
  · exact ⟨(Below.refl _ _).drew, fun k _ _ hk => (by rw [getD_replicate_false] at hk; cases hk), fun k j _ _ _ _ hk => (by rw [getD_replicate_false] at hk; cases hk)⟩

theorem rowsIn_of {r n : Nat} {row : String} {args : Array Value} {w : World} {R : Value → World → Prop} (h : Rows P row args w R) : RowsIn (Fence.wide.inRound r) n P row args w R :=
  fun c cs _ => let ⟨v, w', hr, hs⟩ := h c cs; ⟨v, w', hr, stepsIn_wide.2 hs⟩
theorem uponIn_of {r n : Nat} {o : Oper} {a : Act} {K : Act → World → Prop} {Q : Exit → Act → World → Prop} {x : Result Next} (h : o.upon P a K Q x) :
    o.uponIn (Fence.wide.inRound r) n P a K Q x := by
  unfold Oper.upon at h
  split at h
  · exact h
  · exact h
  · exact h
  · exact ⟨fun hd => by simp [Fence.wide] at hd, CallsIn.inRound r ((callsIn_wide (n := n - 1)).2 h)⟩
  · exact ⟨fun hd => by simp [Fence.wide] at hd, rowsIn_of h⟩
  · exact h
  · exact h.elim
/-- An operation that is no defer statement. -/
def plainOp (o : Oper) : Prop := ∀ c, o.op ≠ .defer c
def plainB (o : Oper) : Bool := match o.op with
  | .defer _ => false
  | _ => true
theorem plainB_ok {o : Oper} (h : plainB o = true) : plainOp o := fun c hc => by unfold plainB at h; rw [hc] at h; cases h
theorem opIn_of {r n : Nat} {o : Oper} {a : Act} {w : World} {K : Act → World → Prop} {Q : Exit → Act → World → Prop} (hp : plainOp o) (h : o.wp P a w K Q) : o.wpIn (Fence.wide.inRound r) n P a w K Q := by
  refine ⟨fun _ _ => trivial, ?_⟩
  rw [Oper.semAt_eq _ _ _ hp]
  exact uponIn_of h
theorem opsIn_of {r n : Nat} {Q : Exit → Act → World → Prop} (hq : ¬ LetsOut Q) (hp : ∀ (i : Nat) (o : Oper), ops[i]? = some o → plainOp o) : ∀ (l : List Nat) (a : Act) (w : World), wpOps P ops Q l a w → wpOpsIn (Fence.wide.inRound r) n P ops Q l a w
  | [], a, w, h => h
  | i :: rest, a, w, h => by
    rw [wpOpsIn_cons]
    rw [wpOps_cons] at h
    unfold wpOpIn
    unfold wpOp at h
    cases ho : ops[i]? with
    | none => rw [ho] at h; exact opsIn_of hq hp rest a w h
    | some o =>
      rw [ho] at h
      simp only at h ⊢
      split
      · rename_i hw
        rw [if_pos hw] at h
        exact Oper.wpIn_mono (fun a w => opsIn_of hq hp rest a w) (opIn_of (hp i o ho) (h.resolve_right (fun hx => hq hx.2)))
      · rename_i hw
        rw [if_neg hw] at h
        exact ⟨fun _ _ => trivial, opsIn_of hq hp rest _ w h⟩
theorem wpIn_region_qat {r n id : Nat} {Q : Exit → Act → World → Prop} {a : Act} {l : List Oper} (cs : List Tmp) (na : Nat) (ms : List Mkr) (hm : P.follows .mixedOrders = true) (hB : qatB cs l.toArray na = true) (hq : ¬ LetsOut Q) (hp : l.all plainB = true)
    (h : (∀ (z : Blur W) (b o : Nat), b < W.heap.size → (blur z).cell? ⟨b, o, none⟩ = W.cell? ⟨b, o, none⟩) →
      wpQ P cs l.toArray W (fun aq => mkSpec P cs W aq (l.take na) ms ∧ mkGo cs W (fun acc w' => wpList P l.toArray Q (l.drop na) acc w') (l.take na) ms aq (fun _ => True) []) (l.take na) a) :
    (Code.region id l.toArray true).wpIn (Fence.wide.inRound r) n P Q a W := by
  refine wpIn_region_draw fun t => ?_
  simp only [Region.schedule, hm, Bool.true_or, if_true]
  exact opsIn_of hq (fun i o ho => plainB_ok (List.all_eq_true.1 hp o (List.mem_of_getElem? (by simpa using ho)))) _ _ _ (wpAny_sound l.toArray.size t _ a _ (wpAny_qat cs na ms hB h))
end
end Go.Proofs.Ytbgcbjfimjfbpaa
