/-
  Contracts of chapter 1: the bits of a number appended to a list.
-/
import Derived.Test.YtkipaefhnmfebaaSlice
import Derived.Test.YtkipaefhnmfebaaBits
namespace Go.Proofs.Ytkipaefhnmfebaa
open Go.RowKit

theorem info_own {P : Program} {e : TypeId} {z : Value} {size bytes : Nat} (h : (P.info? e).map (fun i => (i.zero, i.size, i.bytes)) = some (some z, size, bytes)) :
    ∃ i, P.info? e = some i ∧ i.zero = some z ∧ i.size = size ∧ i.bytes = bytes := info_parts h
set_option maxHeartbeats 1000000 in
theorem l01Append_any (v0 : Value) (xs : List Int) (v W : Nat) (w : World) (hs : Src w v0 xs) (hx : xs.length ≤ 1000000) (hW : W ≤ 60) (hv : v < 4611686018427387904) :
    Calls Try.prog 113 #[v0, .int .i64 v, .int .i64 W] w fun e w' => ∃ v', e = .returned v' ∧ Own w' w.heap.size v' (xs ++ bitsL W v) ∧ Below w.heap.size w w' := by
  obtain ⟨i0, hi⟩ := info_own info_i64s
  have HI := Lib.hid (And.intro i0.bytes.le_refl hi)
  have HV := Lib.hid hv
  clear hi hv
  have HE := Lib.hid (World.ownsRow_made (e := 2) (size := 1) (base := w.heap.size) w #[] 0 (Nat.le_refl _) (by unfold maxLen; omega) rfl)
  rcases hs with ⟨rfl, rfl⟩ | ⟨ad, c, rfl, hlt, hc⟩
  · go_enter Try.func113, Try.ntmps113
    go_wp2_with (at_builtin; refine wpList_append_own_none rfl _ _ 22 rfl w.heap.size 2 i0 1 Try.underlying22 HI.out.2.1 _ _ _ rfl HE.out rfl ?_)
    have HO1 : Hid (Own (w.alloc (.cells #[] 2)) w.heap.size (.slice (some ⟨w.heap.size, 0, none⟩) 0 0) []) := HE.out
    have HB1 : Hid (w.heap.size ≤ (w.alloc (.cells #[] 2)).heap.size ∧ Below w.heap.size w (w.alloc (.cells #[] 2))) := ⟨by simp, by go_grown⟩
    go_loopw [7, 8] (fun out k wr => ∃ (n : Nat) (ys : List Int), n ≤ W ∧ k = .int .i64 ((n : Int) - 1) ∧ ys.length ≤ 2000000 ∧ Hid (Own wr w.heap.size out ys) ∧ Hid (ys ++ bitsL n v = [] ++ bitsL W v) ∧ Hid (w.heap.size ≤ wr.heap.size ∧ Below w.heap.size w wr ∧ ys.length + n = 0 + W))
      (fun _ k _ => (intOf k + 1).toNat)
    case atStart => exact ⟨W, [], Nat.le_refl _, by go_num, by simp, HO1.out, rfl, HB1.out.1, HB1.out.2, by simp⟩
    case round =>
      obtain ⟨n, ys, hn, rfl, hys, hown, heq, hbel⟩ := hrel
      rcases n with _ | m
      · go_wp2_with fail
        go_ret
        exact ⟨_, rfl, hown.out.to (by have := heq.out; simpa [bitsL] using this), hbel.out.2.1⟩
      · obtain ⟨b, hb⟩ : ∃ b : Int, ((v / 2 ^ m % 2 : Nat) : Int) = b := ⟨_, rfl⟩
        have hbit : bits .and .i64 ((v : Int) / 2 ^ m) 1 = b := by rw [i64_bit v m HV.out, hb]
        have HBB := Lib.hid hb
        have hbs := Lib.hid hbel.out.1
        clear hb
        go_wp2_with (at_builtin; refine wpList_append_own _ rfl _ _ 22 rfl (w.heap.size) 2 i0 (.int .i64 0) 1 8 Try.underlying22 HI.out.2.1 HI.out.2.2.1 HI.out.2.2.2.1 HI.out.2.2.2.2 rfl (by decide) _ _ _ rfl (Own.alloc hown.out _) ⟨wr.heap.size, 0, none⟩ 1 1 [.int .i64 (b)] rfl rfl (cell_one_new _ _ _) (one_ok _) (own_max hown.out (by omega)) (own_bytes hown.out (by omega)) (own_base hbs.out) ?_; intro va wa howna hgrowa _; have hoa := Lib.hid (Own.snoc howna); have hga := Lib.hid hgrowa; clear howna hgrowa)
        go_roundw
        case rel => exact ⟨m, ys ++ [b], by omega, by go_num, by have := hbel.out.2.2; simp; omega, hoa.out, by have := heq.out; rw [List.append_assoc, ← HBB.out]; exact this, by
          refine ⟨by have := Own.size_grown hga.out; have := hbs.out; omega, Own.below_grown hown.out hbel.out.2.1 hbs.out hga.out, by have := hbel.out.2.2; simp; omega⟩⟩
        case measure => simp [intOf]
  · have HN := Lib.hid (src_news hlt hc (.cells #[] 2))
    clear hc
    go_enter Try.func113, Try.ntmps113
    have tok : True := trivial
    go_wp2_with (at_builtin; have _t := tok; refine wpList_append_own _ rfl _ _ 22 rfl w.heap.size 2 i0 (.int .i64 0) 1 8 Try.underlying22 HI.out.2.1 HI.out.2.2.1 HI.out.2.2.2.1 HI.out.2.2.2.2 rfl (by decide) _ _ _ rfl HE.out ad xs.length c (xs.map (Value.int .i64)) rfl (by simp) HN.out (ints_ok xs) (by unfold maxLen; omega) (by omega) (by simp) ?_; intro v1 w1 hown1 hgrow1 _; have HO1 := Lib.hid (Own.of_copy hown1); have HG1 := Lib.hid hgrow1; clear hown1 hgrow1 tok)
    have HB1 : Hid (w.heap.size ≤ w1.heap.size ∧ Below w.heap.size w w1) := ⟨by have := HG1.out.size; simp at this; omega, ((Below.refl _ _).alloc (Nat.le_refl _) _).grown HG1.out (by simp) (fun k hk => (World.ownsRow.lt HE.out k hk).1)⟩
    clear HG1
    go_loopw [7, 8] (fun out k wr => ∃ (n : Nat) (ys : List Int), n ≤ W ∧ k = .int .i64 ((n : Int) - 1) ∧ ys.length ≤ 2000000 ∧ Hid (Own wr w.heap.size out ys) ∧ Hid (ys ++ bitsL n v = xs ++ bitsL W v) ∧ Hid (w.heap.size ≤ wr.heap.size ∧ Below w.heap.size w wr ∧ ys.length + n = xs.length + W))
      (fun _ k _ => (intOf k + 1).toNat)
    case atStart => exact ⟨W, xs, Nat.le_refl _, by go_num, by omega, HO1.out, rfl, HB1.out.1, HB1.out.2, rfl⟩
    case round =>
      obtain ⟨n, ys, hn, rfl, hys, hown, heq, hbel⟩ := hrel
      rcases n with _ | m
      · go_wp2_with fail
        go_ret
        exact ⟨_, rfl, hown.out.to (by have := heq.out; simpa [bitsL] using this), hbel.out.2.1⟩
      · obtain ⟨b, hb⟩ : ∃ b : Int, ((v / 2 ^ m % 2 : Nat) : Int) = b := ⟨_, rfl⟩
        have hbit : bits .and .i64 ((v : Int) / 2 ^ m) 1 = b := by rw [i64_bit v m HV.out, hb]
        have HBB := Lib.hid hb
        have hbs := Lib.hid hbel.out.1
        clear hb
        go_wp2_with (at_builtin; refine wpList_append_own _ rfl _ _ 22 rfl (w.heap.size) 2 i0 (.int .i64 0) 1 8 Try.underlying22 HI.out.2.1 HI.out.2.2.1 HI.out.2.2.2.1 HI.out.2.2.2.2 rfl (by decide) _ _ _ rfl (Own.alloc hown.out _) ⟨wr.heap.size, 0, none⟩ 1 1 [.int .i64 (b)] rfl rfl (cell_one_new _ _ _) (one_ok _) (own_max hown.out (by omega)) (own_bytes hown.out (by omega)) (own_base hbs.out) ?_; intro va wa howna hgrowa _; have hoa := Lib.hid (Own.snoc howna); have hga := Lib.hid hgrowa; clear howna hgrowa)
        go_roundw
        case rel => exact ⟨m, ys ++ [b], by omega, by go_num, by have := hbel.out.2.2; simp; omega, hoa.out, by have := heq.out; rw [List.append_assoc, ← HBB.out]; exact this, by
          refine ⟨by have := Own.size_grown hga.out; have := hbs.out; omega, Own.below_grown hown.out hbel.out.2.1 hbs.out hga.out, by have := hbel.out.2.2; simp; omega⟩⟩
        case measure => simp [intOf]
end Go.Proofs.Ytkipaefhnmfebaa
