/-
  Contracts of chapter 15: the indices of the data cells, and how many they are.
-/
import Derived.Test.YteghpageamehkaaC15I
namespace Go.Proofs.Yteghpageamehkaa
set_option linter.unusedSimpArgs false
open Go.RowKit

/-- Block b is a map from s places (n at most) to numbers. -/
def MapS (w : World) (b n : Nat) (f : Int → Int → Option Int) (s : Nat) : Prop :=
  ∃ D : DataW Unit, w.ownsMap Try.prog 32 (plainElem Try.prog 2) b n D ∧ (∀ r c, I64 r → I64 c → Maps.has D (PK r c) = (f r c).isSome ∧ D.atKey (PK r c) (.lit (.int .i64 0)) = .lit (.int .i64 ((f r c).getD 0))) ∧ Maps.size D = s
theorem MapS.q {w : World} {b n s : Nat} {f : Int → Int → Option Int} (h : MapS w b n f s) : MapQ w b n f := by obtain ⟨D, h1, h2, _⟩ := h; exact ⟨D, h1, h2⟩
theorem MapS.lt {w : World} {b n s : Nat} {f : Int → Int → Option Int} (h : MapS w b n f s) : b < w.heap.size := h.q.lt
theorem MapS.made (w : World) : MapS (w.alloc (.map #[] 0)) w.heap.size 0 (fun _ _ => none) 0 := ⟨.map [], World.ownsMap_made _ _ _ _, fun _ _ _ _ => ⟨rfl, rfl⟩, rfl⟩
theorem MapS.below {w w' : World} {b n s B : Nat} {f : Int → Int → Option Int} (h : MapS w b n f s) (hb : Below B w w') (hB : b < B) : MapS w' b n f s := by
  obtain ⟨D, ⟨es, clock, hh, F, hs, hD⟩, h2⟩ := h
  exact ⟨D, ⟨es, clock, (hb.block b hB).trans hh, F, hs, hD⟩, h2⟩
set_option maxRecDepth 20000 in
set_option maxHeartbeats 4000000 in
theorem placeIndicesS_any (N : Nat) (w : World) (hN : 17 ≤ N ∧ N ≤ 41 ∧ N % 4 = 1) :
    Calls Try.prog 60 #[.int .i64 N] w fun e w' => ∃ b n, e = .returned (.map (some b)) ∧ w.heap.size ≤ b ∧ MapS w' b n (fun r c => ixL (dataL N) r c (dataL N).length) (dataL N).length ∧ Below w.heap.size w w' := by
  have HD := Lib.hid (fun w => dataPlaces_any N w hN)
  have hin := Lib.hid (fun (p : Int × Int) (hp : p ∈ dataL N) => data_in hN hp)
  have hle := dataL_le hN.2.1
  have hda := Lib.hid (fun (i j : Nat) (hij : i < j) (hj : j < (dataL N).length) => data_apart hN hij hj)
  have hN2 := hN.2.1
  clear hN
  obtain ⟨L, hL⟩ : ∃ L, (dataL N).length = L := ⟨_, rfl⟩
  rw [hL] at hle hda ⊢
  have HL := Lib.hid hL
  clear hL
  generalize dataL N = ps at HD hin HL hda ⊢
  have hmm := @run_makeMap Try.prog
  go_enter Try.func60, Try.ntmps60
  go_wp2_with fail
  clear hmm
  (go_at_call 54; with_reducible refine (HD.out _).mono ?_; rintro e1 w1 ⟨v1, rfl, ho1, hb1⟩; obtain ⟨hc1, hf1⟩ := bcell hb1; have hB1 : Below w.heap.size w w1 := (below_then (by first | (go_grown; done) | (repeat (first | (with_reducible assumption) | (with_reducible exact Below.refl _ _) | (with_reducible refine below_drewN' ?_ _) | (with_reducible refine Below.drew ?_) | ((with_reducible refine Below.alloc ?_ ?_ _); rotate_left; focus (first | (simp; done) | (simp; omega) | omega)) | ((with_reducible refine Below.setCell ?_ ?_ _); rotate_left; focus (first | (simp; done) | (simp; omega) | omega))))) (by first | omega | (simp; done) | (simp; omega)) hb1); have hz1a : w.heap.size < w1.heap.size := (by have := hb1.size; first | omega | (simp at this; omega)))
  have HM1 := Lib.hid ((MapS.made w).below hb1 (by simp))
  have hs1 := hb1.size
  obtain ⟨A1, c1, rfl⟩ := ho1.shape0
  rw [HL.out] at ho1 ⊢
  have HO1 := Lib.hid (ho1.more (B' := w.heap.size + 1) (by simp))
  clear ho1 hc1 hf1 hb1
  go_wp2_with fail
  go_loopw [4, 5, 10] (fun x y i wr => ∃ k : Nat, k ≤ L ∧ i = .int .i64 k ∧ Hid (∃ n, n ≤ k ∧ MapS wr w.heap.size n (fun r c => ixL ps r c k) k) ∧ Hid (OwnP wr (w.heap.size + 1) (.slice A1 L c1) ps) ∧ Hid (Below w.heap.size w wr))
    (fun _ _ i _ => L - (intOf i).toNat)
  case atStart => exact ⟨0, Nat.zero_le _, rfl, Lib.hid ⟨0, Nat.le_refl _, HM1.out⟩, HO1, Lib.hid hB1⟩
  case round =>
    obtain ⟨k, hk, rfl, hmap, hown, hbel⟩ := hrel
    by_cases hlt : k < L
    · obtain ⟨g, c', e', hB', hg', hc'⟩ := hown.out.cells (by rw [HL.out]; omega)
      simp only [Value.slice.injEq] at e'
      obtain ⟨rfl, -, -⟩ := e'
      obtain ⟨hck0, hck1⟩ := hc' k (by rw [HL.out]; exact hlt)
      have hrg := hin.out _ (nthP_mem (ps := ps) (k := k) (by rw [HL.out]; exact hlt))
      have hfr : ∀ r c, nthP ps k = (r, c) → ixL ps r c k = none := fun r c e => ixL_none fun i hi => by
        cases h : eqP r c (nthP ps i) with
        | false => rfl
        | true => exact absurd ((eqP_iff.1 h).trans e.symm) (hda.out i k hi hlt)
      have hix := Lib.hid (fun r c => show ixL ps r c (k + 1) = if eqP r c (nthP ps k) then some (k : Int) else ixL ps r c k from rfl)
      generalize nthP ps k = pp at hck0 hck1 hrg hix hfr
      obtain ⟨pr, pq⟩ := pp
      simp only at hck0 hck1 hrg
      have hfr := Lib.hid (hfr pr pq rfl)
      clear hc'
      obtain ⟨n7, hn7, hmp⟩ := hmap.out
      have hlr := hmp.lt
      have hsr := hbel.out.size
      obtain ⟨D, hD1, hD2, hD3⟩ := hmp.below ((Below.refl wr.heap.size wr).alloc (Nat.le_refl _) (.cells #[.int .i64 pr, .int .i64 pq] 32)) hlr
      have hi1 : I64 pr := I64.of (by omega)
      have hi2 : I64 pq := I64.of (by omega)
      have HK := Lib.hid (keyP hi1 hi2)
      have HS : Hid (Maps.size (D.put (PK pr pq) (.lit (.int .i64 (k : Int)))) = k + 1) := Lib.hid (by
        have h1 : Maps.has D (PK pr pq) = (ixL ps pr pq k).isSome := (hD2 pr pq hi1 hi2).1
        rw [hfr.out] at h1
        rw [Maps.size_put (hD1.tidy keyedPlace), h1, hD3]
        rfl)
      have HD1 := Lib.hid hD1
      have hput := Lib.hid (MapQ.put hD2 hD1.isMap (x := (k : Int)) hi1 hi2)
      have hkw := Lib.hid (I64.of (n := (k : Int)) (by omega)).wf
      clear hD1 hD2 hD3 hi1 hi2 hmp
      go_wp2_with (at_mapUpdate; refine wpList_mapUpdate_own _ rfl _ _ _ 77 rfl 32 2 keyedPlace Try.underlying77 _ w.heap.size n7 D rfl HD1.out (by unfold maxLen; omega) _ _ _ rfl rfl HK.out (.lit (.int .i64 (k : Int))) [] (plainElem_int Try.underlying2 hkw.out) ?_; intro w7 hown7 hg7)
      have hM7 := Lib.hid (show MapS w7 w.heap.size (n7 + 1) (fun r c => ixL ps r c (k + 1)) (k + 1) from ⟨_, hown7, fun r c hr hc => by
        have := hput.out r c hr hc
        show Maps.has _ _ = (ixL ps r c (k + 1)).isSome ∧ _ = DataW.lit (.int .i64 ((ixL ps r c (k + 1)).getD 0))
        rw [hix.out r c]; exact this, HS.out⟩)
      have hO7 := Lib.hid (show OwnP w7 (w.heap.size + 1) (.slice (some ⟨g, 0, none⟩) L c1) ps from World.ownsRow.kept (OwnP.alloc hown.out _) hg7 (.inr (fun e => by have : g = w.heap.size := Option.some.inj e; omega)))
      have hb7 := Lib.hid ((hbel.out.alloc hsr (.cells #[.int .i64 pr, .int .i64 pq] 32)).grown hg7 (by simp; omega) (fun q hq => Nat.le_of_eq (by simpa using hq)))
      clear hown7 hg7 hput HD1
      go_wp2_with fail
      go_roundw
      case rel => refine ⟨k + 1, by omega, by go_num, ?_⟩; first | exact ⟨Lib.hid ⟨n7 + 1, by omega, hM7.out⟩, hO7, hb7⟩ | exact Lib.hid ⟨n7 + 1, by omega, hM7.out⟩
      case measure => simp [intOf]; omega
    · have hkn : L = k := by omega
      subst hkn
      clear hk hlt
      go_wp2_with fail
      go_ret
      obtain ⟨n, hn, hm⟩ := hmap.out
      exact ⟨w.heap.size, n, rfl, Nat.le_refl _, hm, hbel.out⟩
end Go.Proofs.Yteghpageamehkaa
