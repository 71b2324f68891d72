/-
  A list divided by its greatest common divisor.
-/
import Derived.Test.YtnhhbpdjapccpaaDoorGcd
import Derived.Test.YtnhhbpdjapccpaaDoorHold
import Derived.Test.YtnhhbpdjapccpaaDoorGeo
namespace Go.Proofs.YtnhhbpdjapccpaaDoor
open Go.RowKit

/-- By what a list is divided. -/
def sgL (xs : List Int) : Int := if nth xs (xs.length - 1) < 0 then -(gcdL xs : Int) else gcdL xs
/-- The list divided. -/
def redL (xs : List Int) : List Int := if gcdL xs = 0 then xs else xs.map (fun x => x.tdiv (sgL xs))
theorem redL_map {xs : List Int} (h : 0 < gcdL xs) : redL xs = xs.map (fun x => x.tdiv (sgL xs)) := by unfold redL; rw [if_neg (by omega)]
theorem redL_len (xs : List Int) : (redL xs).length = xs.length := by unfold redL; split <;> simp
theorem redL_nth {xs : List Int} (h : 0 < gcdL xs) {k : Nat} (hk : k < xs.length) : nth (redL xs) k = (nth xs k).tdiv (sgL xs) := by
  rw [redL_map h, nth_lt (by simpa using hk), nth_lt hk, List.getElem_map]

set_option maxHeartbeats 1000000 in
theorem reduce_any (b n c t : Nat) (xs : List Int) (w : World) (hr : RowAt w b t xs) (hl : xs.length = n) (hn0 : 0 < n) (hn : n ≤ 1000000)
    (hx : ∀ x ∈ xs, x.natAbs ≤ 9223372036854775807) :
    Calls Tryd.prog 41 #[.slice (some ⟨b, 0, none⟩) n c] w fun e w' => e = .returned (.tuple #[]) ∧ RowAt w' b t (redL xs) ∧ w.grownBy w' (some b) := by
  have hcl := hr.cell (k := n - 1) (by omega)
  have hRI : RI w (b + 1) (some ⟨b, 0, none⟩) n xs := hr.RI (by omega) hl
  have HL := Lib.hid hl
  clear hl
  have HX := Lib.hid hx
  clear hx
  have HR := Lib.hid hr
  clear hr
  have HRI := Lib.hid hRI
  clear hRI
  have hgb : gcdL xs ≤ 9223372036854775807 := gcdL_le xs HX.out
  by_cases hg0 : gcdL xs = 0
  · have HG := Lib.hid hg0
    go_enter Tryd.func41, Tryd.ntmps41
    go_wp2_with (go_at_call 32; go_call (common_any _ n c xs _ _ HRI.out hn HX.out) as e2 w2 ⟨rfl, m2, rfl⟩)
    go_returns
    exact ⟨rfl, by have : redL xs = xs := by unfold redL; rw [if_pos HG.out]
                   rw [this]; exact HR.out.drewN _, grown_drewN (World.grownBy.refl _ _) _⟩
  · have hgp : 0 < gcdL xs := by omega
    obtain ⟨s, hs⟩ : ∃ s, s = sgL xs := ⟨_, rfl⟩
    have HS := Lib.hid hs
    clear hs
    have hlen2 : xs.length = (redL xs).length := (redL_len xs).symm
    have H2 := Lib.hid hlen2
    clear hlen2 hg0
    have HGP := Lib.hid hgp
    rcases Int.lt_or_le (nth xs (n - 1)) 0 with hneg | hpos
    · have hs2 : -(gcdL xs : Int) = s := by rw [HS.out]; unfold sgL; rw [HL.out, if_pos hneg]
      have HS2 := Lib.hid hs2
      clear hs2
      go_enter Tryd.func41, Tryd.ntmps41
      go_wp2_with (go_at_call 32; go_call (common_any _ n c xs _ _ HRI.out hn HX.out) as e2 w2 ⟨rfl, m2, rfl⟩; have hcl2 : (w.drewN m2).cell? ⟨b, n - 1, none⟩ = some (.int .i64 (nth xs (n - 1))) := hcl)
      go_loopw [19] (fun i wr => ∃ k : Nat, k ≤ n ∧ i = .int .i64 k ∧ Hid (RowAt wr b t ((redL xs).take k ++ xs.drop k)) ∧ Hid (w.grownBy wr (some b))) (fun i _ => n - (intOf i).toNat)
      case atStart => exact ⟨0, by omega, rfl, HR.out.drewN _, grown_drewN (World.grownBy.refl _ _) _⟩
      case round =>
        obtain ⟨k, hk, rfl, hrow, hgr⟩ := hrel
        by_cases hlt : k < n
        · have hck := hrow.out.cell (k := k) (by rw [len_mix H2.out (by rw [HL.out]; omega), HL.out]; exact hlt)
          rw [nth_mix H2.out (by rw [HL.out]; exact hlt)] at hck
          have hfk := hrow.out.free k
          have hxk : (nth xs k).natAbs ≤ 9223372036854775807 := HX.out _ (nth_mem (by rw [HL.out]; exact hlt))
          have hq := tdiv_rg (b := (gcdL xs : Int)) 9223372036854775807 (by omega) (by omega) (a := nth xs k)
          go_wp2
          go_roundw
          case rel => exact ⟨k + 1, by omega, by go_num, by
            have h := hrow.out.set (k := k) (nth (redL xs) k)
            rw [set_mix H2.out (by rw [HL.out]; exact hlt)] at h
            have e : -(nth xs k).tdiv (gcdL xs : Int) = nth (redL xs) k := by rw [redL_nth HGP.out (by rw [HL.out]; exact hlt), ← HS.out, ← HS2.out, Int.tdiv_neg]
            rw [e]
            exact h, grown_set hgr.out _⟩
          case measure => simp [intOf]; omega
        · have hkn : k = n := by omega
          have hfin : RowAt wr b t (redL xs) := hrow.out.to (by rw [hkn, List.take_of_length_le (by rw [redL_len, HL.out]; omega), List.drop_of_length_le (by rw [HL.out]; omega), List.append_nil])
          have HF := Lib.hid hfin
          clear hfin hkn
          go_wp2
          go_returns
          exact ⟨rfl, HF.out, hgr.out⟩
    · have hs2 : (gcdL xs : Int) = s := by rw [HS.out]; unfold sgL; rw [HL.out, if_neg (by omega)]
      have HS2 := Lib.hid hs2
      clear hs2
      go_enter Tryd.func41, Tryd.ntmps41
      go_wp2_with (go_at_call 32; go_call (common_any _ n c xs _ _ HRI.out hn HX.out) as e2 w2 ⟨rfl, m2, rfl⟩; have hcl2 : (w.drewN m2).cell? ⟨b, n - 1, none⟩ = some (.int .i64 (nth xs (n - 1))) := hcl)
      go_loopw [19] (fun i wr => ∃ k : Nat, k ≤ n ∧ i = .int .i64 k ∧ Hid (RowAt wr b t ((redL xs).take k ++ xs.drop k)) ∧ Hid (w.grownBy wr (some b))) (fun i _ => n - (intOf i).toNat)
      case atStart => exact ⟨0, by omega, rfl, HR.out.drewN _, grown_drewN (World.grownBy.refl _ _) _⟩
      case round =>
        obtain ⟨k, hk, rfl, hrow, hgr⟩ := hrel
        by_cases hlt : k < n
        · have hck := hrow.out.cell (k := k) (by rw [len_mix H2.out (by rw [HL.out]; omega), HL.out]; exact hlt)
          rw [nth_mix H2.out (by rw [HL.out]; exact hlt)] at hck
          have hfk := hrow.out.free k
          have hxk : (nth xs k).natAbs ≤ 9223372036854775807 := HX.out _ (nth_mem (by rw [HL.out]; exact hlt))
          have hq := tdiv_rg (b := (gcdL xs : Int)) 9223372036854775807 (by omega) (by omega) (a := nth xs k)
          go_wp2
          go_roundw
          case rel => exact ⟨k + 1, by omega, by go_num, by
            have h := hrow.out.set (k := k) (nth (redL xs) k)
            rw [set_mix H2.out (by rw [HL.out]; exact hlt)] at h
            have e : (nth xs k).tdiv (gcdL xs : Int) = nth (redL xs) k := by rw [redL_nth HGP.out (by rw [HL.out]; exact hlt), ← HS.out, ← HS2.out]
            rw [e]
            exact h, grown_set hgr.out _⟩
          case measure => simp [intOf]; omega
        · have hkn : k = n := by omega
          have hfin : RowAt wr b t (redL xs) := hrow.out.to (by rw [hkn, List.take_of_length_le (by rw [redL_len, HL.out]; omega), List.drop_of_length_le (by rw [HL.out]; omega), List.append_nil])
          have HF := Lib.hid hfin
          clear hfin hkn
          go_wp2
          go_returns
          exact ⟨rfl, HF.out, hgr.out⟩
end Go.Proofs.YtnhhbpdjapccpaaDoor
