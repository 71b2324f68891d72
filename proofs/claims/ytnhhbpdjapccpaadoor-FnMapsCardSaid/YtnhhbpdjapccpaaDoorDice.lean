/-
  The dice of the laws: what a throw gives is told by its range alone.
-/
import Derived.Test.YtnhhbpdjapccpaaDoorSrc
import Derived.Test.YtnhhbpdjapccpaaDoorBits
namespace Go.Proofs.YtnhhbpdjapccpaaDoor
open Go.RowKit

def U64 (h : Int) : Prop := 0 ≤ h ∧ h < 18446744073709551616
theorem u64_wrap (x : Int) : U64 (IntKind.u64.wrap x) := by
  rw [IntKind.wrap_u64]; unfold U64; omega
/-- Block b is a dice over the code. -/
def DiceW (w : World) (t b : Nat) (A : Option Addr) (n c : Nat) : Prop :=
  ∃ (at' : Nat) (h : Int), w.heap[b]? = some (.cells #[.slice A n c, .int .i64 at', .int .u64 h] t (0, 0)) ∧ at' ≤ n ∧ U64 h
theorem u64_mask (H : Int) (hu : U64 H) : 0 ≤ bits .and .u64 (H / 8589934592) 16777215 ∧ bits .and .u64 (H / 8589934592) 16777215 ≤ 16777215 := by
  obtain ⟨h0, h1⟩ := hu
  obtain ⟨a, ha⟩ : ∃ a : Nat, H / 8589934592 = (a : Int) := ⟨(H / 8589934592).toNat, by omega⟩
  rw [ha]
  have hx : a &&& 16777215 ≤ 16777215 := Nat.and_le_right
  have e : bits .and .u64 (a : Int) 16777215 = ((a &&& 16777215 : Nat) : Int) := by
    show IntKind.u64.wrap ((BitVec.ofInt 64 (a : Int) &&& BitVec.ofInt 64 ((16777215 : Nat) : Int)).toNat : Int) = _
    rw [BitVec.toNat_and, ofInt64 a (by omega), ofInt64 _ (by decide), IntKind.wrap_u64]
    omega
  rw [e]; omega
/-- The dice behind a throw. -/
theorem dice_val {H m y : Int} (hu : U64 H) (h0 : 0 ≤ y) (h1 : y ≤ 255) (hm : 1 ≤ m) :
    0 ≤ (wrap64 (wrap64 (bits .and .u64 (H / 8589934592) 16777215) + y)).tmod m ∧ (wrap64 (wrap64 (bits .and .u64 (H / 8589934592) 16777215) + y)).tmod m < m := by
  have h := u64_mask H hu
  rw [wrap64_in (n := bits .and .u64 (H / 8589934592) 16777215) (by omega), wrap64_in (by omega)]
  exact ⟨Int.tmod_nonneg _ (by omega), Int.tmod_lt_of_pos _ (by omega)⟩
theorem dice_val' {H m : Int} (hu : U64 H) (hm : 1 ≤ m) :
    0 ≤ (wrap64 (bits .and .u64 (H / 8589934592) 16777215)).tmod m ∧ (wrap64 (bits .and .u64 (H / 8589934592) 16777215)).tmod m < m := by
  have h := u64_mask H hu
  rw [wrap64_in (by omega)]
  exact ⟨Int.tmod_nonneg _ (by omega), Int.tmod_lt_of_pos _ (by omega)⟩
theorem dice_one {w : World} {t b n c at' : Nat} {A : Option Addr} {h h' : Int} (hh : w.heap[b]? = some (.cells #[.slice A n c, .int .i64 at', .int .u64 h] t (0, 0))) (ha : at' ≤ n) (hu : U64 h') (k : Nat) :
    DiceW ((w.setCell ⟨b, 2, none⟩ (.int .u64 h')).drewN k) t b A n c ∧ w.grownBy ((w.setCell ⟨b, 2, none⟩ (.int .u64 h')).drewN k) (some b) := by
  refine ⟨⟨at', h', ?_, ha, hu⟩, grown_drewN (grown_set (World.grownBy.refl _ _) _) _⟩
  have h := blk3_set (k := 2) (u := .int .u64 h') hh
  simpa using h
theorem dice_two {w : World} {t b n c at' : Nat} {A : Option Addr} {h h' : Int} (hh : w.heap[b]? = some (.cells #[.slice A n c, .int .i64 at', .int .u64 h] t (0, 0))) (ha : at' < n) (hu : U64 h') (k : Nat) :
    DiceW (((w.setCell ⟨b, 2, none⟩ (.int .u64 h')).drewN k).setCell ⟨b, 1, none⟩ (.int .i64 ((at' : Int) + 1))) t b A n c ∧ w.grownBy (((w.setCell ⟨b, 2, none⟩ (.int .u64 h')).drewN k).setCell ⟨b, 1, none⟩ (.int .i64 ((at' : Int) + 1))) (some b) := by
  refine ⟨⟨at' + 1, h', ?_, ha, hu⟩, grown_set (grown_drewN (grown_set (World.grownBy.refl _ _) _) _) _⟩
  have h := blk3_set (k := 1) (u := .int .i64 ((at' : Int) + 1)) (w := (w.setCell ⟨b, 2, none⟩ (.int .u64 h')).drewN k) (t := t) (b := b) (blk3_set (k := 2) (u := .int .u64 h') hh)
  simpa using h
end Go.Proofs.YtnhhbpdjapccpaaDoor
