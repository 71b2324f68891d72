/-
  Contracts of chapter 1, the program: sums and distances of lists of bits.
-/
import Derived.Test.YtkdaodfhilhfgaaC01B
import Derived.Test.YtkdaodfhilhfgaaDist
import Derived.Test.YtkdaodfhilhfgaaToS
namespace Go.Proofs.Ytkdaodfhilhfgaa
open Go.RowKit

theorem xor_bit {x y : Int} (hx : x = 0 ∨ x = 1) (hy : y = 0 ∨ y = 1) : bits .xor .i64 x y = xorI x y ∧ 0 ≤ xorI x y ∧ xorI x y ≤ 1 := by
  rcases hx with rfl | rfl <;> rcases hy with rfl | rfl <;> decide
theorem zip_len (xs ys : List Int) (h : xs.length = ys.length) : (List.zipWith xorI xs ys).length = xs.length := by simp [h]
theorem nth_zip {xs ys : List Int} {k : Nat} (h : xs.length = ys.length) (hk : k < xs.length) : nth (List.zipWith xorI xs ys) k = xorI (nth xs k) (nth ys k) := by
  rw [nth_lt hk, nth_lt (xs := ys) (by omega), nth_lt (by simp; omega)]
  simp
theorem differ_xor {xs ys : List Int} {k : Nat} (hl : xs.length = ys.length) (h : k < xs.length) :
    (differL (xs.take (k + 1)) (ys.take (k + 1)) : Int) = differL (xs.take k) (ys.take k) + xorI (nth xs k) (nth ys k) := by
  rw [differ_snoc hl h]; unfold xorI; split <;> simp
theorem pairOfBits_ok (A1 A2 : Option Addr) (n c1 c2 : Nat) (xs ys : List Int) (w : World) (B1 B2 : Nat) (hr1 : RI w B1 A1 n xs) (hr2 : RI w B2 A2 n ys) (hn : n ≤ 8192) (hx : all01 xs) (hy : all01 ys) :
    Calls Try.prog 53 #[.slice A1 n c1, .slice A2 n c2] w fun e w' => e = .returned (.int .i64 0) ∧ w = w' := by
  have H1 := Lib.hid hr1
  have H2 := Lib.hid hr2
  have HX := Lib.hid hx
  have HY := Lib.hid hy
  clear hr1 hr2 hx hy
  go_enter Try.func53, Try.ntmps53
  go_wp2_with first | (go_at_call 59; with_reducible refine (IsBits_yes A1 n c1 xs _ B1 H1.out hn HX.out).mono ?_; rintro e w' ⟨rfl, rfl⟩) | (go_at_call 59; with_reducible refine (IsBits_yes A2 n c2 ys _ B2 H2.out hn HY.out).mono ?_; rintro e w' ⟨rfl, rfl⟩)
  go_ret
  exact ⟨rfl, rfl⟩
set_option maxHeartbeats 1000000 in
theorem BitDistance_ok (A1 A2 : Option Addr) (n c1 c2 : Nat) (xs ys : List Int) (w : World) (B1 B2 : Nat) (hr1 : RI w B1 A1 n xs) (hr2 : RI w B2 A2 n ys) (hn : n ≤ 8192) (hx : all01 xs) (hy : all01 ys) :
    Calls Try.prog 34 #[.slice A1 n c1, .slice A2 n c2] w fun e w' => e = .returned (.tuple #[.int .i64 (differL xs ys), .int .i64 0]) ∧ w = w' := by
  have hl1 := Lib.hid hr1.len
  have hl2 := Lib.hid hr2.len
  have HE : Hid (xs.length = ys.length) := Lib.hid (hl1.out.trans hl2.out.symm)
  have H1 := Lib.hid hr1
  have H2 := Lib.hid hr2
  have HX := Lib.hid hx
  have HY := Lib.hid hy
  clear hr1 hr2 hx hy
  go_enter Try.func34, Try.ntmps34
  go_wp2_with (go_at_call 53; with_reducible refine (pairOfBits_ok A1 A2 n c1 c2 xs ys _ B1 B2 H1.out H2.out hn HX.out HY.out).mono ?_; rintro e w' ⟨rfl, rfl⟩)
  go_loop [7, 8, 9, 18] (fun q a1 a2 i => ∃ k : Nat, k ≤ n ∧ i = .int .i64 k ∧ q = .int .i64 (differL (xs.take k) (ys.take k))) (fun _ _ _ i => n - (intOf i).toNat)
  case atStart => exact ⟨0, Nat.zero_le _, rfl, rfl⟩
  case round =>
    obtain ⟨k, hk, rfl, rfl⟩ := hrel
    have hdl : differL (xs.take k) (ys.take k) ≤ k := Nat.le_trans (differ_le _ _) (List.length_take_le _ _)
    by_cases hlt : k < n
    · obtain ⟨b, o, rfl, hb, hc⟩ := H1.out.cells (by omega)
      obtain ⟨b', o', rfl, hb', hc'⟩ := H2.out.cells (by omega)
      have hck := hc k hlt
      have hck' := hc' k hlt
      have hsn := Lib.hid (differ_xor HE.out (k := k) (by have := hl1.out; omega))
      obtain ⟨hxr, hx0, hx1⟩ := xor_bit (HX.out _ (nth_mem (xs := xs) (k := k) (by have := hl1.out; omega))) (HY.out _ (nth_mem (xs := ys) (k := k) (by have := hl2.out; omega)))
      clear hc hc' hb hb'
      go_wp2_with fail
      go_round
      case rel => exact ⟨k + 1, by omega, by go_num, by rw [hsn.out]⟩
      case measure => simp [intOf]; omega
    · have hkn : k = n := by omega
      have hfin : differL (xs.take k) (ys.take k) = differL xs ys := by
        rw [hkn, List.take_of_length_le (by have := hl1.out; omega), List.take_of_length_le (by have := hl2.out; omega)]
      have HF := Lib.hid hfin
      clear hfin hkn
      go_wp2_with fail
      go_returns
      exact ⟨by simp [HF.out], rfl⟩
set_option maxHeartbeats 2000000 in
theorem XorBits_ok (A1 A2 : Option Addr) (n c1 c2 : Nat) (xs ys : List Int) (w : World) (B1 B2 : Nat) (hr1 : RI w B1 A1 n xs) (hr2 : RI w B2 A2 n ys) (hB1 : B1 ≤ w.heap.size) (hB2 : B2 ≤ w.heap.size) (hn : n ≤ 8192) (hx : all01 xs) (hy : all01 ys) :
    Calls Try.prog 33 #[.slice A1 n c1, .slice A2 n c2] w fun e w' => ∃ v', e = .returned (.tuple #[v', .int .i64 0]) ∧ Own w' w.heap.size v' (List.zipWith xorI xs ys) ∧ Below w.heap.size w w' := by
  obtain ⟨i0, hi⟩ := info_own' info_i64s
  have HI := Lib.hid (And.intro i0.bytes.le_refl hi)
  have hl1 := Lib.hid hr1.len
  have hl2 := Lib.hid hr2.len
  have HE : Hid (xs.length = ys.length) := Lib.hid (hl1.out.trans hl2.out.symm)
  have H1 := Lib.hid (hr1.more hB1)
  have H2 := Lib.hid (hr2.more hB2)
  have HX := Lib.hid hx
  have HY := Lib.hid hy
  have HZ : Hid ((List.zipWith xorI xs ys).length = n) := Lib.hid (by rw [zip_len _ _ HE.out, hl1.out])
  clear hr1 hr2 hx hy hi
  go_enter Try.func33, Try.ntmps33
  go_wp2_with first | (go_at_call 53; with_reducible refine (pairOfBits_ok A1 A2 n c1 c2 xs ys _ _ _ H1.out H2.out hn HX.out HY.out).mono ?_; rintro e w' ⟨rfl, rfl⟩) | (at_make; refine wpList_make_full w rfl _ _ 24 rfl w.heap.size 2 i0 (.int .i64 0) 1 Try.underlying24 HI.out.2.1 HI.out.2.2.1 HI.out.2.2.2.1 .i64 .i64 n n n (by rfl) (by rfl) rfl rfl (by rw [HI.out.2.2.2.2]; omega) (by unfold maxLen; omega) (Nat.le_refl _) ?_; intro w1 hown1 hgrow1)
  have HO := Lib.hid (Own.made_zero hown1)
  have HB := Lib.hid ((Below.refl w.heap.size w).grown hgrow1 (Nat.le_refl _) (fun k hk => by cases hk))
  clear hown1 hgrow1
  go_loopw [8, 9, 21] (fun a1 a2 i wr => ∃ k : Nat, k ≤ n ∧ i = .int .i64 k ∧ Hid (Own wr w.heap.size (.slice (some ⟨w.heap.size, 0, none⟩) n n) ((List.zipWith xorI xs ys).take k ++ (List.replicate n (0 : Int)).drop k)) ∧ Hid (Below w.heap.size w wr))
    (fun _ _ i _ => n - (intOf i).toNat)
  case atStart => exact ⟨0, Nat.zero_le _, rfl, Lib.hid (by simpa using HO.out), HB.out⟩
  case round =>
    obtain ⟨k, hk, rfl, hown, hbel⟩ := hrel
    have hlen : (List.replicate n (0 : Int)).length = (List.zipWith xorI xs ys).length := by rw [HZ.out]; simp
    have HLN := Lib.hid hlen
    have hlm : ((List.zipWith xorI xs ys).take k ++ (List.replicate n (0 : Int)).drop k).length = n := by rw [len_mix hlen (by simpa using hk)]; simp
    have HLM := Lib.hid hlm
    clear hlen hlm
    by_cases hlt : k < n
    · obtain ⟨b, o, rfl, hb, hc⟩ := (H1.out.below hbel.out).cells (by omega)
      have hck := hc k hlt
      obtain ⟨b', o', rfl, hb', hc1⟩ := (H2.out.below hbel.out).cells (by omega)
      have hck' := hc1 k hlt
      obtain ⟨hxr, hx0, hx1⟩ := xor_bit (HX.out _ (nth_mem (xs := xs) (k := k) (by have := hl1.out; omega))) (HY.out _ (nth_mem (xs := ys) (k := k) (by have := hl2.out; omega)))
      obtain ⟨g', c', e', hB', hg', hc', hf'⟩ := hown.out.row (by rw [HLM.out]; omega)
      obtain ⟨rfl, rfl⟩ : w.heap.size = g' ∧ n = c' := by
        simp only [Value.slice.injEq, Option.some.injEq, Addr.mk.injEq, and_true] at e'
        exact ⟨e'.1, e'.2.2⟩
      have hdk := hc' k (by rw [HLM.out]; exact hlt)
      have hfk := hf' k
      have hset := fun u => Lib.hid (Own.setn HLM.out hown.out (k := k) (u := u))
      have hmix := set_mix HLN.out (k := k) (by simpa using hlt)
      have hz := nth_zip HE.out (k := k) (by have := hl1.out; omega)
      rw [hz] at hmix
      have HS := Lib.hid hset
      have HM := Lib.hid hmix
      clear hc hc1 hc' hf' e' hset hB' hb hb' hmix hz
      go_wp2_with fail
      go_roundw
      case rel => exact ⟨k + 1, by omega, by go_num, Lib.hid (by rw [← HM.out]; exact (HS.out _).out), Lib.hid (hbel.out.setCell (Nat.le_refl _) _)⟩
      case measure => simp [intOf]; omega
    · have hkn : k = n := by omega
      have hfin : Own wr w.heap.size (.slice (some ⟨w.heap.size, 0, none⟩) n n) (List.zipWith xorI xs ys) := by
        have := hown.out
        rwa [hkn, List.take_of_length_le (by rw [HZ.out]; exact Nat.le_refl _), List.drop_of_length_le (by simp), List.append_nil] at this
      have HF := Lib.hid hfin
      clear hfin hkn
      go_wp2_with fail
      go_returns
      exact ⟨_, rfl, HF.out, hbel.out⟩
end Go.Proofs.Ytkdaodfhilhfgaa
