/-
  The source of the draws: numbers that follow from a code. What a draw gives is told by its range alone.
-/
import Derived.Test.YtkipaefhnmfebaaSlice
import Derived.Test.YtkipaefhnmfebaaRegion
import Derived.Test.YtkipaefhnmfebaaBlk
namespace Go.Proofs.Ytkipaefhnmfebaa
open Go.RowKit

/-- The slice value at A, of n elements, reads in w as the bytes xs; its cells lie below block B. -/
structure RB (w : World) (B : Nat) (A : Option Addr) (n : Nat) (xs : List Int) : Prop where
  len : xs.length = n
  rng : ∀ x ∈ xs, 0 ≤ x ∧ x ≤ 255
  cells : 0 < n → ∃ b o, A = some ⟨b, o, none⟩ ∧ b < B ∧ ∀ k, k < n → w.cell? ⟨b, o + k, none⟩ = some (.int .u8 (nth xs k))
section
variable {w w' : World} {B B' n : Nat} {A : Option Addr} {xs : List Int}
theorem RB.keep (h : RB w B A n xs) (hk : ∀ p : Addr, p.block < B → w'.cell? p = w.cell? p) : RB w' B A n xs :=
  ⟨h.len, h.rng, fun hn => by
    obtain ⟨b, o, e, hb, hc⟩ := h.cells hn
    exact ⟨b, o, e, hb, fun k hkn => (hk _ hb).trans (hc k hkn)⟩⟩
theorem RB.below (h : RB w B A n xs) (hb : Below B w w') : RB w' B A n xs := h.keep fun _ hp => hb.cell hp
theorem RB.more (h : RB w B A n xs) (hB : B ≤ B') : RB w B' A n xs :=
  ⟨h.len, h.rng, fun hn => by
    obtain ⟨b, o, e, hb, hc⟩ := h.cells hn
    exact ⟨b, o, e, by omega, hc⟩⟩
end
/-- Block b is a source over the code. -/
def SrcW (w : World) (t b : Nat) (A : Option Addr) (n c : Nat) : Prop :=
  ∃ (at' : Nat) (seed : Int), w.heap[b]? = some (.cells #[.slice A n c, .int .i64 at', .int .i64 seed] t (0, 0)) ∧ at' ≤ n ∧ 0 ≤ seed ∧ seed < 2147483647
theorem SrcW.lt {w : World} {t b n c : Nat} {A : Option Addr} (h : SrcW w t b A n c) : b < w.heap.size := by
  obtain ⟨_, _, h, _⟩ := h; exact lt_of_block h
theorem SrcW.of {w w' : World} {t b n c : Nat} {A : Option Addr} (h : SrcW w t b A n c) (hb : w'.heap[b]? = w.heap[b]?) : SrcW w' t b A n c := by
  obtain ⟨a, s, h1, h2⟩ := h; exact ⟨a, s, hb.trans h1, h2⟩
theorem SrcW.below {w w' : World} {t b n c B : Nat} {A : Option Addr} (h : SrcW w t b A n c) (hb : Below B w w') (hB : b < B) : SrcW w' t b A n c := h.of (hb.block b hB)
theorem SrcW.grown {w w' : World} {t b n c : Nat} {A : Option Addr} {row : Option Nat} (h : SrcW w t b A n c) (hg : w.grownBy w' row) (hne : some b ≠ row) : SrcW w' t b A n c := h.of (hg.block b h.lt hne)
theorem grown_setCell {a w : World} {b k : Nat} (h : a.grownBy w (some b)) (u : Value) : a.grownBy (w.setCell ⟨b, k, none⟩ u) (some b) := grown_set h u
theorem next_val {x m : Int} (hx : 0 ≤ x) (hm : 1 < m) : 0 ≤ x.tmod m ∧ x.tmod m < max m 1 := by
  rw [Int.tmod_eq_emod_of_nonneg hx]
  have h1 := Int.emod_nonneg x (b := m) (by omega)
  have h2 := Int.emod_lt_of_pos x (b := m) (by omega)
  omega
theorem next_val' {x m : Int} (hm : 1 < m) : 0 ≤ x % m ∧ x % m < max m 1 := by
  have h1 := Int.emod_nonneg x (b := m) (by omega)
  have h2 := Int.emod_lt_of_pos x (b := m) (by omega)
  omega
theorem src_one {w : World} {t b n c at' : Nat} {A : Option Addr} {seed s' : Int} (hh : w.heap[b]? = some (.cells #[.slice A n c, .int .i64 at', .int .i64 seed] t (0, 0))) (ha : at' ≤ n) (h0 : 0 ≤ s') (h1 : s' < 2147483647) (k : Nat) :
    SrcW ((w.setCell ⟨b, 2, none⟩ (.int .i64 s')).drewN k) t b A n c ∧ w.grownBy ((w.setCell ⟨b, 2, none⟩ (.int .i64 s')).drewN k) (some b) := by
  refine ⟨⟨at', s', ?_, ha, h0, h1⟩, grown_drewN (grown_set (World.grownBy.refl _ _) _) _⟩
  have h := blk3_set (k := 2) (u := .int .i64 s') hh
  simpa using h
theorem src_two {w : World} {t b n c at' : Nat} {A : Option Addr} {seed s' : Int} (hh : w.heap[b]? = some (.cells #[.slice A n c, .int .i64 at', .int .i64 seed] t (0, 0))) (ha : at' < n) (h0 : 0 ≤ s') (h1 : s' < 2147483647) (k j : Nat) :
    SrcW ((((w.setCell ⟨b, 2, none⟩ (.int .i64 s')).drewN k).setCell ⟨b, 1, none⟩ (.int .i64 ((at' : Int) + 1))).drewN j) t b A n c ∧ w.grownBy ((((w.setCell ⟨b, 2, none⟩ (.int .i64 s')).drewN k).setCell ⟨b, 1, none⟩ (.int .i64 ((at' : Int) + 1))).drewN j) (some b) := by
  refine ⟨⟨at' + 1, s', ?_, ha, h0, h1⟩, grown_drewN (grown_set (grown_drewN (grown_set (World.grownBy.refl _ _) _) _) _) _⟩
  have h := blk3_set (k := 1) (u := .int .i64 ((at' : Int) + 1)) (w := (w.setCell ⟨b, 2, none⟩ (.int .i64 s')).drewN k) (t := t) (b := b) (blk3_set (k := 2) (u := .int .i64 s') hh)
  simpa using h
set_option maxHeartbeats 4000000 in
theorem l01Next_any (b : Nat) (A : Option Addr) (n c : Nat) (bs : List Int) (m : Int) (w : World) (B : Nat) (hs : SrcW w 97 b A n c) (hb : RB w B A n bs) (hB : B ≤ b) (hn : n ≤ 4096) (hm : m ≤ 9223372036854775807) :
    Calls Try.prog 62 #[.pointer (some ⟨b, 0, none⟩), .int .i64 m] w fun e w' =>
      ∃ r : Int, e = .returned (.int .i64 r) ∧ 0 ≤ r ∧ r < max m 1 ∧ SrcW w' 97 b A n c ∧ w.grownBy w' (some b) := by
  obtain ⟨at', seed, hh, ha, hs0, hs1⟩ := hs
  by_cases hm1 : m ≤ 1
  · have HS := Lib.hid (show SrcW w 97 b A n c from ⟨at', seed, hh, ha, hs0, hs1⟩)
    clear hh hb
    go_enter Try.func62, Try.ntmps62
    go_wp2_with fail
    go_ret
    exact ⟨0, rfl, by omega, by omega, HS.out, World.grownBy.refl _ _⟩
  · have hm2 : 1 < m := by omega
    clear hm1
    obtain ⟨c0, c1, c2, cf⟩ := blk3 hh
    have HH := Lib.hid hh
    have HRB := Lib.hid hb
    clear hh hb
    have hq : 0 ≤ (seed * 48271 + 11) % 2147483647 ∧ (seed * 48271 + 11) % 2147483647 < 2147483647 := ⟨Int.emod_nonneg _ (by omega), Int.emod_lt_of_pos _ (by omega)⟩
    by_cases hat : at' < n
    · obtain ⟨p, o, rfl, hp, hc⟩ := HRB.out.cells (by omega)
      have hck := hc at' hat
      have hrg := HRB.out.rng _ (nth_mem (xs := bs) (k := at') (by rw [HRB.out.len]; exact hat))
      have hpb : p ≠ b := by omega
      obtain ⟨y, hy⟩ : ∃ y, nth bs at' = y := ⟨_, rfl⟩
      rw [hy] at hck hrg
      clear hc hy hp
      have hi : ((at' : Int) < (n : Int)) := by omega
      have ho2 : (at' : Int) + 1 - 1 = at' := by omega
      by_cases hm256 : m ≤ 256
      · by_cases hev : ((at' : Int) + 1) % 2 = 0
        · have he : (((at' : Int) + 1) % 2 == 0) = true := by simpa using hev
          clear hev
          go_enter Try.func62, Try.ntmps62
          go_wp2_with fail
          go_quiet (fail)
          go_wp2_with fail
          go_quiet (fail)
          go_wp2_with fail
          go_quiet (fail)
          go_wp2_with fail
          go_ret
          exact ⟨_, rfl, by first | exact (next_val' hm2).1 | exact (next_val (by omega) hm2).1, by first | exact (next_val' hm2).2 | exact (next_val (by omega) hm2).2, by first | exact src_two HH.out hat hq.1 hq.2 _ _ | exact src_two HH.out hat hq.1 hq.2 _ 0⟩
        · have he : (((at' : Int) + 1) % 2 == 0) = false := by simpa using hev
          clear hev
          go_enter Try.func62, Try.ntmps62
          go_wp2_with fail
          go_quiet (fail)
          go_wp2_with fail
          go_quiet (fail)
          go_wp2_with fail
          go_ret
          exact ⟨_, rfl, by first | exact (next_val' hm2).1 | exact (next_val (by omega) hm2).1, by first | exact (next_val' hm2).2 | exact (next_val (by omega) hm2).2, by first | exact src_two HH.out hat hq.1 hq.2 _ _ | exact src_two HH.out hat hq.1 hq.2 _ 0⟩
      · go_enter Try.func62, Try.ntmps62
        go_wp2_with fail
        go_quiet (fail)
        go_wp2_with fail
        go_quiet (fail)
        go_wp2_with fail
        go_ret
        exact ⟨_, rfl, by first | exact (next_val' hm2).1 | exact (next_val (by omega) hm2).1, by first | exact (next_val' hm2).2 | exact (next_val (by omega) hm2).2, by first | exact src_two HH.out hat hq.1 hq.2 _ _ | exact src_two HH.out hat hq.1 hq.2 _ 0⟩
    · have hi : ¬ ((at' : Int) < (n : Int)) := by omega
      go_enter Try.func62, Try.ntmps62
      go_wp2_with fail
      go_quiet (fail)
      go_wp2_with fail
      go_ret
      exact ⟨_, rfl, by first | exact (next_val' hm2).1 | exact (next_val (by omega) hm2).1, by first | exact (next_val' hm2).2 | exact (next_val (by omega) hm2).2, by first | exact src_one HH.out ha hq.1 hq.2 _ | exact src_one HH.out ha hq.1 hq.2 0⟩
set_option maxHeartbeats 2000000 in
theorem l01From_any (A : Option Addr) (n c : Nat) (bs : List Int) (w : World) (B : Nat) (hb : RB w B A n bs) (hB : B ≤ w.heap.size) (hn : n ≤ 4096) :
    Calls Try.prog 37 #[.slice A n c] w fun e w' => e = .returned (.pointer (some ⟨w.heap.size, 0, none⟩)) ∧ SrcW w' 97 w.heap.size A n c ∧ Below w.heap.size w w' := by
  have HRB := Lib.hid hb
  clear hb
  go_enter Try.func37, Try.ntmps37
  go_wp2_with fail
  go_loopw [4] (fun i wr => ∃ (k : Nat) (seed : Int), k ≤ n ∧ i = .int .i64 k ∧ 0 ≤ seed ∧ seed < 2147483647 ∧ Hid (wr.heap[w.heap.size]? = some (.cells #[.slice A n c, .int .i64 0, .int .i64 seed] 97 (0, 0))) ∧ Hid (Below w.heap.size w wr))
    (fun i _ => n - (intOf i).toNat)
  case atStart => exact ⟨0, 60617, Nat.zero_le _, rfl, by omega, by omega, heap_alloc_new w _, Lib.hid (by go_grown)⟩
  case round =>
    obtain ⟨k, seed, hk, rfl, hs0, hs1, hh, hbel⟩ := hrel
    obtain ⟨c0, c1, c2, cf⟩ := blk3 hh.out
    by_cases hlt : k < n
    · have hi : ((k : Int) < (n : Int)) := by omega
      by_cases h64 : k < 64
      · have h64' : ((k : Int) < 64) := by omega
        obtain ⟨p, o, rfl, hp, hc⟩ := (HRB.out.below (hbel.out.mono hB)).cells (by omega)
        have hck := hc k hlt
        have hrg := HRB.out.rng _ (nth_mem (xs := bs) (k := k) (by rw [HRB.out.len]; exact hlt))
        have hpb : p ≠ w.heap.size := by omega
        obtain ⟨y, hy⟩ : ∃ y, nth bs k = y := ⟨_, rfl⟩
        rw [hy] at hck hrg
        clear hc hy hp
        have hbw := hbel.out
        have hwz : w.heap.size < wr.heap.size := lt_of_block hh.out
        have hpz : p < wr.heap.size := World.block_lt_of_cell? _ _ hck
        have hq : 0 ≤ (seed * 43 + y) % 2147483647 ∧ (seed * 43 + y) % 2147483647 < 2147483647 := ⟨Int.emod_nonneg _ (by omega), Int.emod_lt_of_pos _ (by omega)⟩
        go_wp2_with fail
        refine wp_region_qat [] 15 [] (by kernel_rfl) (by kernel_rfl) ?_
        intro hbc
        simp only [List.take_succ_cons, List.take_zero, List.drop_succ_cons, List.drop_zero]
        repeat (first
          | refine wpQ_pass rfl ?_
          | (refine wpQ_step rfl (fun K hK => ?_)
             go_simp
             first
               | (refine hK _ ?_; clear hK K)))
        refine wpQ_nil ⟨?_, ?_⟩
        · exact rfl
        intro  w2 hb2 hF2
        clear hbc
        obtain ⟨hc2, hf2⟩ := bcell hb2
        have hB2 : Below w.heap.size w w2 := below_then (by first | (go_grown; done) | (repeat (first | (with_reducible assumption) | (with_reducible exact Below.refl _ _) | (with_reducible refine below_drewN' ?_ _) | (with_reducible refine Below.drew ?_) | ((with_reducible refine Below.alloc ?_ ?_ _); rotate_left; focus (first | (simp; done) | (simp; omega) | omega)) | ((with_reducible refine Below.setCell ?_ ?_ _); rotate_left; focus (first | (simp; done) | (simp; omega) | omega))))) (by first | (simp; done) | (simp; omega) | omega) hb2
        have hz2a : w.heap.size < w2.heap.size := (by have := hb2.size; first | omega | (simp at this; omega))
        clear hF2
        try simp only [Act.put, List.setIfInBounds_toArray, List.set_cons_succ, List.set_cons_zero]
        have hh2 := Lib.hid ((hb2.block w.heap.size hwz).trans hh.out)
        obtain ⟨d0, d1, d2, df⟩ := blk3 hh2.out
        clear hb2 hc2 hf2
        go_wp2_with fail
        go_roundw
        case rel => exact ⟨k + 1, (seed * 43 + y) % 2147483647, by omega, by go_num, hq.1, hq.2, Lib.hid (by have h := blk3_set (k := 2) (u := .int .i64 ((seed * 43 + y) % 2147483647)) hh2.out; simpa using h), Lib.hid (hB2.setCell (Nat.le_refl _) _)⟩
        case measure => simp [intOf]; omega
      · have h64' : ¬ ((k : Int) < 64) := by omega
        go_wp2_with fail
        go_ret
        exact ⟨rfl, ⟨0, seed, hh.out, Nat.zero_le _, hs0, hs1⟩, hbel.out⟩
    · have hi : ¬ ((k : Int) < (n : Int)) := by omega
      go_wp2_with fail
      go_ret
      exact ⟨rfl, ⟨0, seed, hh.out, Nat.zero_le _, hs0, hs1⟩, hbel.out⟩
end Go.Proofs.Ytkipaefhnmfebaa
