/-
  Contracts: copies of lists, the program's and the reference's.
-/
import Derived.Test.YtkipaefhnmfebaaC01A
import Derived.Test.YtkipaefhnmfebaaToS
namespace Go.Proofs.Ytkipaefhnmfebaa
set_option linter.unusedSimpArgs false
open Go.RowKit

theorem ri_cells {w : World} {B n b o : Nat} {xs : List Int} (hr : RI w B (some ⟨b, o, none⟩) n xs) (hn : 0 < n) : b < w.heap.size ∧ ∀ k, k < xs.length → w.cell? ((⟨b, o, none⟩ : Addr).add k) = some (.int .i64 (nth xs k)) := by
  obtain ⟨b', o', e, hb, hc⟩ := hr.cells hn
  simp only [Option.some.injEq, Addr.mk.injEq, and_true] at e
  obtain ⟨rfl, rfl⟩ := e
  have h0 := hc 0 hn
  refine ⟨World.block_lt_of_cell? _ _ h0, fun k hk => ?_⟩
  have : (⟨b, o, none⟩ : Addr).add k = ⟨b, o + k, none⟩ := by
    unfold Addr.add; split
    · rename_i h; subst h; rfl
    · rfl
  rw [this]; exact hc k (by have := hr.len; omega)
set_option maxHeartbeats 1000000 in
theorem l01Own_any (b o n c : Nat) (xs : List Int) (w : World) (B : Nat) (hr : RI w B (some ⟨b, o, none⟩) n xs) (hn0 : 0 < n) (hn : n ≤ 1000000) :
    Calls Try.prog 82 #[.slice (some ⟨b, o, none⟩) n c] w fun e w' => ∃ v', e = .returned v' ∧ Own w' w.heap.size v' xs ∧ Below w.heap.size w w' := by
  obtain ⟨i0, hi⟩ := info_own info_i64s
  have HI := Lib.hid (And.intro i0.bytes.le_refl hi)
  have HE := Lib.hid (World.ownsRow_made (e := 2) (size := 1) (base := w.heap.size) w #[] 0 (Nat.le_refl _) (by unfold maxLen; omega) rfl)
  obtain ⟨hlt, hc⟩ := ri_cells hr hn0
  have hlen := hr.len
  subst hlen
  have HN := Lib.hid (src_news hlt hc (.cells #[] 2))
  clear hc hr hi
  go_enter Try.func82, Try.ntmps82
  go_wp2_with (at_builtin; refine wpList_append_own _ rfl _ _ 22 rfl w.heap.size 2 i0 (.int .i64 0) 1 8 Try.underlying22 HI.out.2.1 HI.out.2.2.1 HI.out.2.2.2.1 HI.out.2.2.2.2 rfl (by decide) _ _ _ rfl HE.out ⟨b, o, none⟩ xs.length c (xs.map (Value.int .i64)) rfl (by simp) HN.out (ints_ok xs) (by unfold maxLen; omega) (by omega) (by simp) ?_; intro v1 w1 hown1 hgrow1 _)
  have HO1 := Lib.hid (Own.of_copy hown1)
  have HB1 : Hid (Below w.heap.size w w1) := Lib.hid (((Below.refl _ _).alloc (Nat.le_refl _) _).grown hgrow1 (by simp) (fun k hk => (World.ownsRow.lt HE.out k hk).1))
  clear hown1 hgrow1
  go_ret
  exact ⟨_, rfl, HO1.out, HB1.out⟩
end Go.Proofs.Ytkipaefhnmfebaa
