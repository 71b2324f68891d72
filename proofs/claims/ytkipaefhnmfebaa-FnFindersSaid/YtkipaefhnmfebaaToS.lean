/-
  The laws' copy of a slice of numbers.
-/
import Derived.Test.YtkipaefhnmfebaaSlice
namespace Go.Proofs.Ytkipaefhnmfebaa
open Go.RowKit

theorem Own.made_zero {w : World} {B n : Nat} {v : Value} (h : w.ownsRow B 2 1 v n (madeCells (Value.int .i64 0).cells (n * 1)).toList) : Own w B v (List.replicate n 0) := by
  rw [show (Value.int .i64 0).cells = #[Value.int .i64 0] from rfl, Nat.mul_one, toList_madeCells_one] at h
  unfold Own
  simpa using h
theorem info_own' {P : Program} {e : TypeId} {z : Value} {size bytes : Nat} (h : (P.info? e).map (fun i => (i.zero, i.size, i.bytes)) = some (some z, size, bytes)) :
    ∃ i, P.info? e = some i ∧ i.zero = some z ∧ i.size = size ∧ i.bytes = bytes := info_parts h
set_option maxHeartbeats 1000000 in
theorem toInt64S_any (A : Option Addr) (n c : Nat) (xs : List Int) (w : World) (B : Nat) (hr : RI w B A n xs) (hB : B ≤ w.heap.size) (hn : n ≤ 1000000000000) :
    Calls Try.prog 31 #[.slice A n c] w fun e w' => ∃ v', e = .returned v' ∧ Own w' w.heap.size v' xs ∧ Below w.heap.size w w' := by
  obtain ⟨i0, hi⟩ := info_own' info_i64s
  have HI := Lib.hid (And.intro i0.bytes.le_refl hi)
  have HL := Lib.hid hr.len
  have HR := Lib.hid (hr.more hB)
  clear hr hi
  go_enter Try.func31, Try.ntmps31
  go_wp2_with (at_make; refine wpList_make_full w rfl _ _ 22 rfl w.heap.size 2 i0 (.int .i64 0) 1 Try.underlying22 HI.out.2.1 HI.out.2.2.1 HI.out.2.2.2.1 .i64 .i64 n n n (by rfl) (by rfl) rfl rfl (by rw [HI.out.2.2.2.2]; omega) (by unfold maxLen; omega) (Nat.le_refl _) ?_; intro w1 hown1 hgrow1)
  have HO := Lib.hid (Own.made_zero hown1)
  have HB := Lib.hid ((Below.refl w.heap.size w).grown hgrow1 (Nat.le_refl _) (fun k hk => by cases hk))
  clear hown1 hgrow1
  go_loopw [4] (fun i wr => ∃ k : Nat, k ≤ n ∧ i = .int .i64 k ∧ Hid (Own wr w.heap.size (.slice (some ⟨w.heap.size, 0, none⟩) n n) (xs.take k ++ (List.replicate n (0 : Int)).drop k)) ∧ Hid (Below w.heap.size w wr))
    (fun i _ => n - (intOf i).toNat)
  case atStart => exact ⟨0, Nat.zero_le _, rfl, Lib.hid (by simpa using HO.out), HB.out⟩
  case round =>
    obtain ⟨k, hk, rfl, hown, hbel⟩ := hrel
    have hlen : (List.replicate n (0 : Int)).length = xs.length := by rw [HL.out]; simp
    have HLN := Lib.hid hlen
    have hlm : (xs.take k ++ (List.replicate n (0 : Int)).drop k).length = n := by rw [len_mix hlen (by simpa using hk)]; simp
    have HLM := Lib.hid hlm
    clear hlen hlm
    by_cases hlt : k < n
    · obtain ⟨b, o, rfl, hb, hc⟩ := (HR.out.below hbel.out).cells (by omega)
      have hck := hc k hlt
      obtain ⟨g', c', e', hB', hg', hc', hf'⟩ := hown.out.row (by rw [HLM.out]; omega)
      obtain ⟨rfl, rfl⟩ : w.heap.size = g' ∧ n = c' := by
        simp only [Value.slice.injEq, Option.some.injEq, Addr.mk.injEq, and_true] at e'
        exact ⟨e'.1, e'.2.2⟩
      have hdk := hc' k (by rw [HLM.out]; exact hlt)
      have hfk := hf' k
      have hset := fun u => Lib.hid (Own.setn HLM.out hown.out (k := k) (u := u))
      have hmix := set_mix HLN.out (k := k) (by simpa using hlt)
      have HS := Lib.hid hset
      have HM := Lib.hid hmix
      clear hc hc' hf' e' hset hB' hb hmix
      go_wp2_with fail
      go_roundw
      case rel => exact ⟨k + 1, by omega, by go_num, Lib.hid (by rw [← HM.out]; exact (HS.out _).out), Lib.hid (hbel.out.setCell (Nat.le_refl _) _)⟩
      case measure => simp [intOf]; omega
    · have hkn : k = n := by omega
      have hfin : Own wr w.heap.size (.slice (some ⟨w.heap.size, 0, none⟩) n n) xs := by
        have := hown.out
        rwa [hkn, List.take_of_length_le (by rw [HL.out]; exact Nat.le_refl _), List.drop_of_length_le (by simp), List.append_nil] at this
      have HF := Lib.hid hfin
      clear hfin hkn
      go_wp2_with fail
      go_ret
      exact ⟨_, rfl, HF.out, hbel.out⟩
end Go.Proofs.Ytkipaefhnmfebaa
