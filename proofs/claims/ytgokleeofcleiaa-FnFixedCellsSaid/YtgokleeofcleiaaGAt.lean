/-
  A grid that lies in a block: its block and its cells, carried from call to call.
-/
import Derived.Test.YtgokleeofcleiaaBlk
import Derived.Test.YtgokleeofcleiaaArgG
import Derived.Test.YtgokleeofcleiaaArgB
namespace Go.Proofs.Ytgokleeofcleiaa
set_option linter.unusedSimpArgs false
open Go.RowKit

def GAt (w : World) (b : Nat) (r c : Int) (A : Option Addr) (L cp : Nat) (xs : List Int) : Prop :=
  w.heap[b]? = some (.cells #[.int .i64 r, .int .i64 c, .slice A L cp] 28 (0, 0)) ∧ RI w w.heap.size A L xs
theorem GAt.lt {w : World} {b : Nat} {r c : Int} {A : Option Addr} {L cp : Nat} {xs : List Int} (h : GAt w b r c A L cp xs) : b < w.heap.size := lt_of_block h.1
theorem GAt.ri {w : World} {b : Nat} {r c : Int} {A : Option Addr} {L cp : Nat} {xs : List Int} (h : GAt w b r c A L cp xs) : RI w w.heap.size A L xs := h.2
theorem GAt.c3 {w : World} {b : Nat} {r c : Int} {A : Option Addr} {L cp : Nat} {xs : List Int} (h : GAt w b r c A L cp xs) :
    w.cell? ⟨b, 0, none⟩ = some (.int .i64 r) ∧ w.cell? ⟨b, 1, none⟩ = some (.int .i64 c) ∧ w.cell? ⟨b, 2, none⟩ = some (.slice A L cp) ∧ ∀ k, w.frozen? ⟨b, k, none⟩ = false := blk3 h.1
theorem GAt.below {w w' : World} {b : Nat} {r c : Int} {A : Option Addr} {L cp : Nat} {xs : List Int} (h : GAt w b r c A L cp xs) (hb : Below w.heap.size w w') : GAt w' b r c A L cp xs :=
  ⟨blk_below h.1 hb h.lt, (h.2.below hb).more hb.size⟩
theorem GAt.alloc {w : World} {b : Nat} {r c : Int} {A : Option Addr} {L cp : Nat} {xs : List Int} (h : GAt w b r c A L cp xs) (u : Obj) : GAt (w.alloc u) b r c A L cp xs :=
  h.below ((Below.refl _ _).alloc (Nat.le_refl _) u)
theorem GAt.drewN {w : World} {b : Nat} {r c : Int} {A : Option Addr} {L cp : Nat} {xs : List Int} (h : GAt w b r c A L cp xs) (m : Nat) : GAt (w.drewN m) b r c A L cp xs :=
  h.below (below_drewN' (Below.refl _ _) m)
theorem GAt.made {w : World} {r c : Int} {A : Option Addr} {L cp B : Nat} {xs : List Int} (hr : RI w B A L xs) (hB : B ≤ w.heap.size) :
    GAt (w.alloc (.cells #[.int .i64 r, .int .i64 c, .slice A L cp] 28)) w.heap.size r c A L cp xs :=
  ⟨heap_alloc_new _ _, ((hr.more hB).alloc (Nat.le_refl _) _).more (by simp)⟩
theorem likeG_eq (r c : Int) (A1 A2 : Option Addr) (n c1 c2 : Nat) (xs : List Int) (w : World) (B1 B2 : Nat) (hr1 : RI w B1 A1 n xs) (hr2 : RI w B2 A2 n xs) (hB1 : B1 ≤ w.heap.size) (hB2 : B2 ≤ w.heap.size) (hn : n ≤ 1000000000000) :
    Calls Try.prog 30 #[.agg #[.int .i64 r, .int .i64 c, .slice A1 n c1], .agg #[.int .i64 r, .int .i64 c, .slice A2 n c2]] w fun e w' => e = .returned (.bool true) ∧ Below w.heap.size w w' := by
  have HE := Lib.hid (fun (w' : World) (hb : Below w.heap.size w w') => likeInts_any A1 A2 n n c1 c2 xs xs w' w.heap.size w.heap.size ((hr1.more hB1).below hb) ((hr2.more hB2).below hb) hn hn)
  have hx : (xs == xs) = true := by simp
  have hr0 : (r == r) = true := by simp
  have hc0 : (c == c) = true := by simp
  clear hr1 hr2
  rw [hx] at HE
  clear hx
  go_enter Try.func30, Try.ntmps30
  go_wp2_with (go_at_call 67; refine (HE.out _ (by go_grown)).mono ?_; rintro e1 w1 ⟨rfl, m1, rfl⟩)
  go_ret
  exact ⟨rfl, below_drewN' (by go_grown) _⟩
end Go.Proofs.Ytgokleeofcleiaa
