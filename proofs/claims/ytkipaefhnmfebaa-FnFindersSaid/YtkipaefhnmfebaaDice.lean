/-
  The dice of the laws: what a throw gives is told by its range alone.
-/
import Derived.Test.YtkipaefhnmfebaaSrc
import Derived.Test.YtkipaefhnmfebaaBits
namespace Go.Proofs.Ytkipaefhnmfebaa
open Go.RowKit

def U64 (h : Int) : Prop := 0 ≤ h ∧ h < 18446744073709551616
theorem u64_wrap (x : Int) : U64 (IntKind.u64.wrap x) := by
  rw [IntKind.wrap_u64]; unfold U64; omega
/-- Block b is a dice over the code. -/
def DiceW (w : World) (t b : Nat) (A : Option Addr) (n c : Nat) : Prop :=
  ∃ (at' : Nat) (h : Int), w.heap[b]? = some (.cells #[.slice A n c, .int .i64 at', .int .u64 h] t (0, 0)) ∧ at' ≤ n ∧ U64 h
set_option maxHeartbeats 2000000 in
theorem roll_any (A : Option Addr) (n c : Nat) (bs : List Int) (seed : Int) (w : World) (B : Nat) (hb : RB w B A n bs) (hB : B ≤ w.heap.size) (hn : n ≤ 4096) (hs0 : 0 ≤ seed) (hs1 : seed ≤ 1000000) :
    Calls Try.prog 15 #[.slice A n c, .int .u64 seed] w fun e w' => e = .returned (.pointer (some ⟨w.heap.size, 0, none⟩)) ∧ DiceW w' 70 w.heap.size A n c ∧ Below w.heap.size w w' := by
  have HRB := Lib.hid hb
  clear hb
  go_enter Try.func15, Try.ntmps15
  go_wp2_with fail
  go_loopw [6] (fun i wr => ∃ (k : Nat) (h : Int), k ≤ n ∧ i = .int .i64 k ∧ Hid (U64 h) ∧ Hid (wr.heap[w.heap.size]? = some (.cells #[.slice A n c, .int .i64 0, .int .u64 h] 70 (0, 0))) ∧ Hid (Below w.heap.size w wr))
    (fun i _ => n - (intOf i).toNat)
  case atStart => exact ⟨0, seed * 7919 + n, Nat.zero_le _, rfl, Lib.hid (by unfold U64; omega), heap_alloc_new w _, Lib.hid (by go_grown)⟩
  case round =>
    obtain ⟨k, h, hk, rfl, hu, hh, hbel⟩ := hrel
    obtain ⟨c0, c1, c2, cf⟩ := blk3 hh.out
    by_cases hlt : k < n
    · have hi : ((k : Int) < (n : Int)) := by omega
      obtain ⟨p, o, rfl, hp, hc⟩ := (HRB.out.below (hbel.out.mono hB)).cells (by omega)
      have hck := hc k hlt
      have hrg := HRB.out.rng _ (nth_mem (xs := bs) (k := k) (by rw [HRB.out.len]; exact hlt))
      have hpb : p ≠ w.heap.size := by omega
      obtain ⟨y, hy⟩ : ∃ y, nth bs k = y := ⟨_, rfl⟩
      rw [hy] at hck hrg
      clear hc hy hp
      have hbw := hbel.out
      have hwz : w.heap.size < wr.heap.size := lt_of_block hh.out
      have hpz : p < wr.heap.size := World.block_lt_of_cell? _ _ hck
      go_wp2_with fail
      refine wp_region_qat [] 15 [] (by kernel_rfl) (by kernel_rfl) ?_
      intro hbc
      simp only [List.take_succ_cons, List.take_zero, List.drop_succ_cons, List.drop_zero]
      repeat (first
        | refine wpQ_pass rfl ?_
        | (refine wpQ_step rfl (fun K hK => ?_)
           go_simp
           first
             | (refine hK _ ?_; clear hK K)))
      refine wpQ_nil ⟨?_, ?_⟩
      · exact rfl
      intro  w2 hb2 hF2
      clear hbc
      obtain ⟨hc2, hf2⟩ := bcell hb2
      have hB2 : Below w.heap.size w w2 := below_then (by first | (go_grown; done) | (repeat (first | (with_reducible assumption) | (with_reducible exact Below.refl _ _) | (with_reducible refine below_drewN' ?_ _) | (with_reducible refine Below.drew ?_) | ((with_reducible refine Below.alloc ?_ ?_ _); rotate_left; focus (first | (simp; done) | (simp; omega) | omega)) | ((with_reducible refine Below.setCell ?_ ?_ _); rotate_left; focus (first | (simp; done) | (simp; omega) | omega))))) (by first | (simp; done) | (simp; omega) | omega) hb2
      have hz2a : w.heap.size < w2.heap.size := (by have := hb2.size; first | omega | (simp at this; omega))
      clear hF2
      try simp only [Act.put, List.setIfInBounds_toArray, List.set_cons_succ, List.set_cons_zero]
      have hh2 := Lib.hid ((hb2.block w.heap.size hwz).trans hh.out)
      obtain ⟨d0, d1, d2, df⟩ := blk3 hh2.out
      clear hb2 hc2 hf2
      go_wp2_with fail
      go_roundw
      case rel => exact ⟨k + 1, _, by omega, by go_num, Lib.hid (u64_wrap _), Lib.hid (by have h := blk3_set (k := 2) (u := .int .u64 (IntKind.u64.wrap (IntKind.u64.wrap (IntKind.u64.wrap (h * 1099511628211) + y) + 3))) hh2.out; simpa using h), Lib.hid (hB2.setCell (Nat.le_refl _) _)⟩
      case measure => simp [intOf]; omega
    · have hi : ¬ ((k : Int) < (n : Int)) := by omega
      go_wp2_with fail
      go_ret
      exact ⟨rfl, ⟨0, h, hh.out, Nat.zero_le _, hu.out⟩, hbel.out⟩
theorem u64_mask (H : Int) (hu : U64 H) : 0 ≤ bits .and .u64 (H / 8589934592) 16777215 ∧ bits .and .u64 (H / 8589934592) 16777215 ≤ 16777215 := by
  obtain ⟨h0, h1⟩ := hu
  obtain ⟨a, ha⟩ : ∃ a : Nat, H / 8589934592 = (a : Int) := ⟨(H / 8589934592).toNat, by omega⟩
  rw [ha]
  have hx : a &&& 16777215 ≤ 16777215 := Nat.and_le_right
  have e : bits .and .u64 (a : Int) 16777215 = ((a &&& 16777215 : Nat) : Int) := by
    show IntKind.u64.wrap ((BitVec.ofInt 64 (a : Int) &&& BitVec.ofInt 64 ((16777215 : Nat) : Int)).toNat : Int) = _
    rw [BitVec.toNat_and, ofInt64 a (by omega), ofInt64 _ (by decide), IntKind.wrap_u64]
    omega
  rw [e]; omega
/-- The dice behind a throw. -/
theorem dice_val {H m y : Int} (hu : U64 H) (h0 : 0 ≤ y) (h1 : y ≤ 255) (hm : 1 ≤ m) :
    0 ≤ (wrap64 (wrap64 (bits .and .u64 (H / 8589934592) 16777215) + y)).tmod m ∧ (wrap64 (wrap64 (bits .and .u64 (H / 8589934592) 16777215) + y)).tmod m < m := by
  have h := u64_mask H hu
  rw [wrap64_in (n := bits .and .u64 (H / 8589934592) 16777215) (by omega), wrap64_in (by omega)]
  exact ⟨Int.tmod_nonneg _ (by omega), Int.tmod_lt_of_pos _ (by omega)⟩
theorem dice_val' {H m : Int} (hu : U64 H) (hm : 1 ≤ m) :
    0 ≤ (wrap64 (bits .and .u64 (H / 8589934592) 16777215)).tmod m ∧ (wrap64 (bits .and .u64 (H / 8589934592) 16777215)).tmod m < m := by
  have h := u64_mask H hu
  rw [wrap64_in (by omega)]
  exact ⟨Int.tmod_nonneg _ (by omega), Int.tmod_lt_of_pos _ (by omega)⟩
theorem dice_one {w : World} {t b n c at' : Nat} {A : Option Addr} {h h' : Int} (hh : w.heap[b]? = some (.cells #[.slice A n c, .int .i64 at', .int .u64 h] t (0, 0))) (ha : at' ≤ n) (hu : U64 h') (k : Nat) :
    DiceW ((w.setCell ⟨b, 2, none⟩ (.int .u64 h')).drewN k) t b A n c ∧ w.grownBy ((w.setCell ⟨b, 2, none⟩ (.int .u64 h')).drewN k) (some b) := by
  refine ⟨⟨at', h', ?_, ha, hu⟩, grown_drewN (grown_set (World.grownBy.refl _ _) _) _⟩
  have h := blk3_set (k := 2) (u := .int .u64 h') hh
  simpa using h
theorem dice_two {w : World} {t b n c at' : Nat} {A : Option Addr} {h h' : Int} (hh : w.heap[b]? = some (.cells #[.slice A n c, .int .i64 at', .int .u64 h] t (0, 0))) (ha : at' < n) (hu : U64 h') (k : Nat) :
    DiceW (((w.setCell ⟨b, 2, none⟩ (.int .u64 h')).drewN k).setCell ⟨b, 1, none⟩ (.int .i64 ((at' : Int) + 1))) t b A n c ∧ w.grownBy (((w.setCell ⟨b, 2, none⟩ (.int .u64 h')).drewN k).setCell ⟨b, 1, none⟩ (.int .i64 ((at' : Int) + 1))) (some b) := by
  refine ⟨⟨at' + 1, h', ?_, ha, hu⟩, grown_set (grown_drewN (grown_set (World.grownBy.refl _ _) _) _) _⟩
  have h := blk3_set (k := 1) (u := .int .i64 ((at' : Int) + 1)) (w := (w.setCell ⟨b, 2, none⟩ (.int .u64 h')).drewN k) (t := t) (b := b) (blk3_set (k := 2) (u := .int .u64 h') hh)
  simpa using h
set_option maxHeartbeats 4000000 in
theorem dice_below_any (b : Nat) (A : Option Addr) (n c : Nat) (bs : List Int) (m : Int) (w : World) (B : Nat) (hs : DiceW w 70 b A n c) (hb : RB w B A n bs) (hB : B ≤ b) (hn : n ≤ 4096) (hm : 1 ≤ m) (hm2 : m ≤ 9223372036854775807) :
    Calls Try.prog 16 #[.pointer (some ⟨b, 0, none⟩), .int .i64 m] w fun e w' =>
      ∃ r : Int, e = .returned (.int .i64 r) ∧ 0 ≤ r ∧ r < m ∧ DiceW w' 70 b A n c ∧ w.grownBy w' (some b) := by
  obtain ⟨at', h, hh, ha, hu⟩ := hs
  obtain ⟨c0, c1, c2, cf⟩ := blk3 hh
  have HH := Lib.hid hh
  have HRB := Lib.hid hb
  have HU := Lib.hid hu
  clear hh hb hu
  by_cases hat : at' < n
  · obtain ⟨p, o, rfl, hp, hc⟩ := HRB.out.cells (by omega)
    have hck := hc at' hat
    have hrg := HRB.out.rng _ (nth_mem (xs := bs) (k := at') (by rw [HRB.out.len]; exact hat))
    have hpb : p ≠ b := by omega
    obtain ⟨y, hy⟩ : ∃ y, nth bs at' = y := ⟨_, rfl⟩
    rw [hy] at hck hrg
    clear hc hy hp
    have hi : ((at' : Int) < (n : Int)) := by omega
    go_enter Try.func16, Try.ntmps16
    go_wp2_with fail
    go_quiet (fail)
    go_wp2_with fail
    go_quiet (fail)
    go_wp2_with fail
    go_ret
    exact ⟨_, rfl, (dice_val (u64_wrap _) hrg.1 hrg.2 hm).1, (dice_val (u64_wrap _) hrg.1 hrg.2 hm).2, dice_two HH.out hat (u64_wrap _) _⟩
  · have hi : ¬ ((at' : Int) < (n : Int)) := by omega
    go_enter Try.func16, Try.ntmps16
    go_wp2_with fail
    go_quiet (fail)
    go_wp2_with fail
    go_ret
    exact ⟨_, rfl, (dice_val' (u64_wrap _) hm).1, (dice_val' (u64_wrap _) hm).2, dice_one HH.out ha (u64_wrap _) _⟩
end Go.Proofs.Ytkipaefhnmfebaa
