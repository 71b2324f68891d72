/-
  Contracts of chapter 15: the index of a data cell.
-/
import Derived.Test.YteghpageamehkaaIx
import Derived.Test.YteghpageamehkaaC15E
import Derived.Test.YteghpageamehkaaPlW
namespace Go.Proofs.Yteghpageamehkaa
set_option linter.unusedSimpArgs false
open Go.RowKit

/-- Block b is a map from at most n places to numbers. -/
def MapQ (w : World) (b n : Nat) (f : Int → Int → Option Int) : Prop :=
  ∃ D : DataW Unit, w.ownsMap Try.prog 32 (plainElem Try.prog 2) b n D ∧ ∀ r c, I64 r → I64 c → Maps.has D (PK r c) = (f r c).isSome ∧ D.atKey (PK r c) (.lit (.int .i64 0)) = .lit (.int .i64 ((f r c).getD 0))
theorem MapQ.lt {w : World} {b n : Nat} {f : Int → Int → Option Int} (h : MapQ w b n f) : b < w.heap.size := by obtain ⟨D, h1, _⟩ := h; exact h1.lt
theorem MapQ.made (w : World) : MapQ (w.alloc (.map #[] 0)) w.heap.size 0 (fun _ _ => none) := ⟨.map [], World.ownsMap_made _ _ _ _, fun _ _ _ _ => ⟨rfl, rfl⟩⟩
theorem MapQ.below {w w' : World} {b n B : Nat} {f : Int → Int → Option Int} (h : MapQ w b n f) (hb : Below B w w') (hB : b < B) : MapQ w' b n f := by
  obtain ⟨D, ⟨es, clock, hh, F, hs, hD⟩, h2⟩ := h
  exact ⟨D, ⟨es, clock, (hb.block b hB).trans hh, F, hs, hD⟩, h2⟩
theorem zero_int (w : World) : (zeroValue 2).run Try.prog w = .ok (.int .i64 0) w := by kernel_rfl
theorem MapQ.look {w : World} {b n : Nat} {f : Int → Int → Option Int} (h : MapQ w b n f) {r c : Int} (hr : I64 r) (hc : I64 c) :
    (Instr.lookup 77 (.map (some b)) (.agg #[.int .i64 r, .int .i64 c]) true).run Try.prog w = .ok (.tuple #[.int .i64 ((f r c).getD 0), .bool (f r c).isSome]) w := by
  obtain ⟨D, h1, h2⟩ := h
  obtain ⟨v, ps, hrun, hv⟩ := h1.look_ok keyedPlace Try.underlying77 (zero_int w) (plainElem_int Try.underlying2 (by decide)) (keyP hr hc)
  obtain ⟨h3, h4⟩ := h2 r c hr hc
  rw [h4] at hv
  obtain ⟨a, rfl, ha, _⟩ := plainElem_int_inv Try.underlying2 hv
  rw [hrun, h3]
  simp only [Prod.mk.injEq, DataW.lit.injEq, Lit.int.injEq, true_and] at ha
  rw [ha.1]
theorem MapQ.put {D : DataW Unit} {f : Int → Int → Option Int} (h2 : ∀ r c, I64 r → I64 c → Maps.has D (PK r c) = (f r c).isSome ∧ D.atKey (PK r c) (.lit (.int .i64 0)) = .lit (.int .i64 ((f r c).getD 0))) (hm : Maps.IsMap D) {r c x : Int} (hr : I64 r) (hc : I64 c) :
    ∀ r' c', I64 r' → I64 c' → Maps.has (D.put (PK r c) (.lit (.int .i64 x))) (PK r' c') = (if eqP r' c' (r, c) then some x else f r' c').isSome ∧ (D.put (PK r c) (.lit (.int .i64 x))).atKey (PK r' c') (.lit (.int .i64 0)) = .lit (.int .i64 ((if eqP r' c' (r, c) then some x else f r' c').getD 0)) := by
  intro r' c' hr' hc'
  by_cases e : PK r' c' = PK r c
  · obtain ⟨rfl, rfl⟩ := PK_inj hr' hc' hr hc e
    have h1 : eqP r' c' (r', c') = true := eqP_iff.2 rfl
    rw [Maps.atKey_put_same hm (keyedPlace.key (keyP hr hc)), Maps.has_put_same hm (keyedPlace.key (keyP hr hc)), h1]
    exact ⟨rfl, rfl⟩
  · rw [Maps.atKey_put_other e, Maps.has_put_other e]
    have h1 : eqP r' c' (r, c) = false := by
      cases h : eqP r' c' (r, c) with
      | false => rfl
      | true =>
        have := eqP_iff.1 h
        simp only [Prod.mk.injEq] at this
        exact absurd (by rw [this.1, this.2]) e
    rw [h1]
    exact h2 r' c' hr' hc'
theorem data_in {N : Nat} (h : 17 ≤ N ∧ N ≤ 41 ∧ N % 4 = 1) {p : Int × Int} (hp : p ∈ dataL N) : 0 ≤ p.1 ∧ p.1 < N ∧ 0 ≤ p.2 ∧ p.2 < N := by
  have hcol : ∀ j, j < (N - 1) / 2 → ∀ m, m ≤ 2 * N → ∀ p ∈ colP (fun r c => !noD N r c) N j m, 0 ≤ p.1 ∧ p.1 < N ∧ 0 ≤ p.2 ∧ p.2 < N := by
    intro j hj m
    induction m with
    | zero => intro _ p hp; simp [colP] at hp
    | succ m ih =>
      intro hm p hp
      simp only [colP] at hp
      rcases List.mem_append.1 hp with hp | hp
      · exact ih (by omega) p hp
      · split at hp
        · simp only [List.mem_singleton] at hp
          subst hp
          exact plc_in h hj (by omega)
        · simp at hp
  have hdp : ∀ j, j ≤ (N - 1) / 2 → ∀ p ∈ dpL (fun r c => !noD N r c) N j, 0 ≤ p.1 ∧ p.1 < N ∧ 0 ≤ p.2 ∧ p.2 < N := by
    intro j
    induction j with
    | zero => intro _ p hp; simp [dpL] at hp
    | succ j ih =>
      intro hj p hp
      simp only [dpL] at hp
      rcases List.mem_append.1 hp with hp | hp
      · exact ih (by omega) p hp
      · exact hcol j (by omega) _ (Nat.le_refl _) p hp
  exact hdp _ (Nat.le_refl _) p hp
set_option maxRecDepth 20000 in
set_option maxHeartbeats 4000000 in
theorem placeIndices_any (N : Nat) (w : World) (hN : 17 ≤ N ∧ N ≤ 41 ∧ N % 4 = 1) :
    Calls Try.prog 60 #[.int .i64 N] w fun e w' => ∃ b n, e = .returned (.map (some b)) ∧ w.heap.size ≤ b ∧ MapQ w' b n (fun r c => ixL (dataL N) r c (dataL N).length) ∧ Below w.heap.size w w' := by
  have HD := Lib.hid (fun w => dataPlaces_any N w hN)
  have hin := Lib.hid (fun (p : Int × Int) (hp : p ∈ dataL N) => data_in hN hp)
  have hle := dataL_le hN.2.1
  have hN2 := hN.2.1
  clear hN
  obtain ⟨L, hL⟩ : ∃ L, (dataL N).length = L := ⟨_, rfl⟩
  rw [hL] at hle ⊢
  have HL := Lib.hid hL
  clear hL
  generalize dataL N = ps at HD hin HL ⊢
  have hmm := @run_makeMap Try.prog
  go_enter Try.func60, Try.ntmps60
  go_wp2_with fail
  clear hmm
  (go_at_call 54; with_reducible refine (HD.out _).mono ?_; rintro e1 w1 ⟨v1, rfl, ho1, hb1⟩; obtain ⟨hc1, hf1⟩ := bcell hb1; have hB1 : Below w.heap.size w w1 := (below_then (by first | (go_grown; done) | (repeat (first | (with_reducible assumption) | (with_reducible exact Below.refl _ _) | (with_reducible refine below_drewN' ?_ _) | (with_reducible refine Below.drew ?_) | ((with_reducible refine Below.alloc ?_ ?_ _); rotate_left; focus (first | (simp; done) | (simp; omega) | omega)) | ((with_reducible refine Below.setCell ?_ ?_ _); rotate_left; focus (first | (simp; done) | (simp; omega) | omega))))) (by first | omega | (simp; done) | (simp; omega)) hb1); have hz1a : w.heap.size < w1.heap.size := (by have := hb1.size; first | omega | (simp at this; omega)))
  have HM1 := Lib.hid ((MapQ.made w).below hb1 (by simp))
  have hs1 := hb1.size
  obtain ⟨A1, c1, rfl⟩ := ho1.shape0
  rw [HL.out] at ho1 ⊢
  have HO1 := Lib.hid (ho1.more (B' := w.heap.size + 1) (by simp))
  clear ho1 hc1 hf1 hb1
  go_wp2_with fail
  go_loopw [4, 5, 10] (fun x y i wr => ∃ k : Nat, k ≤ L ∧ i = .int .i64 k ∧ Hid (∃ n, n ≤ k ∧ MapQ wr w.heap.size n (fun r c => ixL ps r c k)) ∧ Hid (OwnP wr (w.heap.size + 1) (.slice A1 L c1) ps) ∧ Hid (Below w.heap.size w wr))
    (fun _ _ i _ => L - (intOf i).toNat)
  case atStart => exact ⟨0, Nat.zero_le _, rfl, Lib.hid ⟨0, Nat.le_refl _, HM1.out⟩, HO1, Lib.hid hB1⟩
  case round =>
    obtain ⟨k, hk, rfl, hmap, hown, hbel⟩ := hrel
    by_cases hlt : k < L
    · obtain ⟨g, c', e', hB', hg', hc'⟩ := hown.out.cells (by rw [HL.out]; omega)
      simp only [Value.slice.injEq] at e'
      obtain ⟨rfl, -, -⟩ := e'
      obtain ⟨hck0, hck1⟩ := hc' k (by rw [HL.out]; exact hlt)
      have hrg := hin.out _ (nthP_mem (ps := ps) (k := k) (by rw [HL.out]; exact hlt))
      have hix := Lib.hid (fun r c => show ixL ps r c (k + 1) = if eqP r c (nthP ps k) then some (k : Int) else ixL ps r c k from rfl)
      generalize nthP ps k = pp at hck0 hck1 hrg hix
      obtain ⟨pr, pq⟩ := pp
      simp only at hck0 hck1 hrg
      clear hc'
      obtain ⟨n7, hn7, hmp⟩ := hmap.out
      have hlr := hmp.lt
      have hsr := hbel.out.size
      obtain ⟨D, hD1, hD2⟩ := hmp.below ((Below.refl wr.heap.size wr).alloc (Nat.le_refl _) (.cells #[.int .i64 pr, .int .i64 pq] 32)) hlr
      have hi1 : I64 pr := I64.of (by omega)
      have hi2 : I64 pq := I64.of (by omega)
      have HK := Lib.hid (keyP hi1 hi2)
      have HD1 := Lib.hid hD1
      have hput := Lib.hid (MapQ.put hD2 hD1.isMap (x := (k : Int)) hi1 hi2)
      have hkw := Lib.hid (I64.of (n := (k : Int)) (by omega)).wf
      clear hD1 hD2 hi1 hi2 hmp
      go_wp2_with (at_mapUpdate; refine wpList_mapUpdate_own _ rfl _ _ _ 77 rfl 32 2 keyedPlace Try.underlying77 _ w.heap.size n7 D rfl HD1.out (by unfold maxLen; omega) _ _ _ rfl rfl HK.out (.lit (.int .i64 (k : Int))) [] (plainElem_int Try.underlying2 hkw.out) ?_; intro w7 hown7 hg7)
      have hM7 := Lib.hid (show MapQ w7 w.heap.size (n7 + 1) (fun r c => ixL ps r c (k + 1)) from ⟨_, hown7, fun r c hr hc => by
        have := hput.out r c hr hc
        show Maps.has _ _ = (ixL ps r c (k + 1)).isSome ∧ _ = DataW.lit (.int .i64 ((ixL ps r c (k + 1)).getD 0))
        rw [hix.out r c]; exact this⟩)
      have hO7 := Lib.hid (show OwnP w7 (w.heap.size + 1) (.slice (some ⟨g, 0, none⟩) L c1) ps from World.ownsRow.kept (OwnP.alloc hown.out _) hg7 (.inr (fun e => by have : g = w.heap.size := Option.some.inj e; omega)))
      have hb7 := Lib.hid ((hbel.out.alloc hsr (.cells #[.int .i64 pr, .int .i64 pq] 32)).grown hg7 (by simp; omega) (fun q hq => Nat.le_of_eq (by simpa using hq)))
      clear hown7 hg7 hput HD1
      go_wp2_with fail
      go_roundw
      case rel => refine ⟨k + 1, by omega, by go_num, ?_⟩; first | exact ⟨Lib.hid ⟨n7 + 1, by omega, hM7.out⟩, hO7, hb7⟩ | exact Lib.hid ⟨n7 + 1, by omega, hM7.out⟩
      case measure => simp [intOf]; omega
    · have hkn : L = k := by omega
      subst hkn
      clear hk hlt
      go_wp2_with fail
      go_ret
      obtain ⟨n, hn, hm⟩ := hmap.out
      exact ⟨w.heap.size, n, rfl, Nat.le_refl _, hm, hbel.out⟩
end Go.Proofs.Yteghpageamehkaa
