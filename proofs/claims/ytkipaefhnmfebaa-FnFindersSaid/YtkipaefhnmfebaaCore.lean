/-
  Words and small laws that all walks of this seat share: plain lists of numbers, slices that read as such lists. No program in sight.
-/
import Derived.WalkKit
import Derived.WalkSpells
import Derived.WalkLawsBesides
import Derived.Handy
import Derived.Lib.Hide
import Derived.Deep.QuietTactic
import Derived.BigQuiet
import Derived.BigGuardPart
import Derived.Deep.RegionHeld3
import Derived.Deep.DrawnRows
import Derived.Deep.DeepCutAuto
namespace Go.Proofs.Ytkipaefhnmfebaa
open Go.RowKit

/-- n lies in the range from l to h. -/
def inR (n l h : Int) : Bool := decide (l ≤ n) && decide (n ≤ h)
theorem inR_cases (n l h : Int) : (inR n l h = true ∧ l ≤ n ∧ n ≤ h) ∨ (inR n l h = false ∧ (n < l ∨ h < n)) := by
  unfold inR
  by_cases h1 : l ≤ n <;> by_cases h2 : n ≤ h <;> simp [h1, h2] <;> omega
theorem inR_true {n l h : Int} (e : inR n l h = true) : l ≤ n ∧ n ≤ h := by
  unfold inR at e; simpa using e
theorem inR_mk {n l h : Int} (h1 : l ≤ n) (h2 : n ≤ h) : inR n l h = true := by
  unfold inR; simp [h1, h2]

/-- Element k of a list of numbers (0 behind its end). -/
def nth (xs : List Int) (k : Nat) : Int := xs.getD k 0
theorem nth_lt {xs : List Int} {k : Nat} (h : k < xs.length) : nth xs k = xs[k] := by
  unfold nth; simp [List.getD, h]
theorem nth_mem {xs : List Int} {k : Nat} (h : k < xs.length) : nth xs k ∈ xs := by
  rw [nth_lt h]; exact List.getElem_mem h
theorem take_nth {xs : List Int} {k : Nat} (h : k < xs.length) : xs.take (k + 1) = xs.take k ++ [nth xs k] := by
  rw [nth_lt h, List.take_succ_eq_append_getElem h]
theorem ext_nth {xs ys : List Int} (hl : xs.length = ys.length) (h : ∀ k, k < xs.length → nth xs k = nth ys k) : xs = ys := by
  apply List.ext_getElem hl
  intro i h1 h2
  have := h i h1
  rwa [nth_lt h1, nth_lt h2] at this

/-- The slice value at A, of n elements, reads in w as the numbers xs; its cells lie below block B. -/
structure RI (w : World) (B : Nat) (A : Option Addr) (n : Nat) (xs : List Int) : Prop where
  len : xs.length = n
  cells : 0 < n → ∃ b o, A = some ⟨b, o, none⟩ ∧ b < B ∧ ∀ k, k < n → w.cell? ⟨b, o + k, none⟩ = some (.int .i64 (nth xs k))

section
variable {w w' : World} {B B' n : Nat} {A : Option Addr} {xs : List Int}
theorem RI.keep (h : RI w B A n xs) (hk : ∀ p : Addr, p.block < B → w'.cell? p = w.cell? p) : RI w' B A n xs :=
  ⟨h.len, fun hn => by
    obtain ⟨b, o, e, hb, hc⟩ := h.cells hn
    exact ⟨b, o, e, hb, fun k hkn => (hk _ hb).trans (hc k hkn)⟩⟩
theorem RI.more (h : RI w B A n xs) (hB : B ≤ B') : RI w B' A n xs :=
  ⟨h.len, fun hn => by
    obtain ⟨b, o, e, hb, hc⟩ := h.cells hn
    exact ⟨b, o, e, by omega, hc⟩⟩
theorem RI.below (h : RI w B A n xs) (hb : Below B w w') : RI w' B A n xs := h.keep fun _ hp => hb.cell hp
theorem RI.drew (h : RI w B A n xs) : RI w.drew B A n xs := h.keep fun _ _ => rfl
theorem RI.drewN (h : RI w B A n xs) (k : Nat) : RI (w.drewN k) B A n xs := h.keep fun _ _ => rfl
theorem RI.alloc (h : RI w B A n xs) (hB : B ≤ w.heap.size) (o : Obj) : RI (w.alloc o) B A n xs := h.keep fun p hp => World.cell?_alloc_lt w o p (by omega)
theorem nth_map (xs : List Int) (k : Nat) (h : k < xs.length) : (xs.map (Value.int .i64))[k]? = some (.int .i64 (nth xs k)) := by
  rw [List.getElem?_map, List.getElem?_eq_getElem h, nth_lt h]; rfl
/-- A block that is known whole reads as its numbers. -/
theorem RI.of_block {g t : Nat} {fz : Nat × Nat} {cs : Array Value} (hg : w.heap[g]? = some (.cells cs t fz)) (hcs : cs = (xs.map (Value.int .i64)).toArray) (hB : g < B) (hn : xs.length = n) :
    RI w B (some ⟨g, 0, none⟩) n xs :=
  ⟨hn, fun _ => ⟨g, 0, rfl, hB, fun k hk => by
    rw [cell_of_row w g (0 + k) cs t fz hg, hcs]
    simp only [Nat.zero_add, List.getElem?_toArray]
    exact nth_map xs k (by omega)⟩⟩
theorem RI.made {t : Nat} {cs : Array Value} (hcs : cs = (xs.map (Value.int .i64)).toArray) (hB : w.heap.size < B) (hn : xs.length = n) :
    RI (w.alloc (.cells cs t)) B (some ⟨w.heap.size, 0, none⟩) n xs := RI.of_block (heap_alloc_new w _) hcs hB hn
theorem RI.made0 {t g : Nat} {cs : Array Value} (hcs : cs = (xs.map (Value.int .i64)).toArray) (hn : xs.length = n) (hg : g = w.heap.size) :
    RI (w.alloc (.cells cs t)) (w.alloc (.cells cs t)).heap.size (some ⟨g, 0, none⟩) n xs := by
  subst hg; exact RI.made hcs (by rw [World.size_alloc]; omega) hn
theorem RI.nil : RI w B A 0 [] := ⟨rfl, fun h => absurd h (by omega)⟩
end

/-- An element of an array value of numbers. -/
theorem run_index_ints {P : Program} {t e n : Nat} {i : TypeInfo} (ht : P.underlying t = some (.array n e)) (he : P.underlying e = some (.int .i64)) (hi : P.info? e = some i) (hs : i.size = 1)
    {cs : Array Value} {xs : List Int} (hcs : cs = (xs.map (Value.int .i64)).toArray) (hn : xs.length = n) {k : Nat} (hk : k < n) (w : World) :
    (Instr.index t (.agg cs) (.int .i64 k)).run P w = .ok (.int .i64 (nth xs k)) w := by
  have hx : cs[k]? = some (.int .i64 (nth xs k)) := by
    rw [hcs]; simp only [List.getElem?_toArray]; exact nth_map xs k (by omega)
  simp [Instr.index, asIntOf, run_underlying ht, part, isAgg, run_underlying he, sizeOf, typeInfo, hi, hs, hx]
  intro h; omega

theorem below_drewN' {B : Nat} {a w : World} (h : Below B a w) (n : Nat) : Below B a (w.drewN n) := by
  exact ⟨h.os, h.tape, h.output, h.size, h.block⟩
/-- Behind a call that leaves all below the heap's size alone: old cells and marks read as before. -/
theorem bcell {W w1 : World} (hb : Below W.heap.size W w1) : (∀ b o, b < W.heap.size → w1.cell? ⟨b, o, none⟩ = W.cell? ⟨b, o, none⟩) ∧ (∀ b o, b < W.heap.size → w1.frozen? ⟨b, o, none⟩ = W.frozen? ⟨b, o, none⟩) :=
  ⟨fun b o h => hb.cell (p := ⟨b, o, none⟩) h, fun b o h => hb.frozen (p := ⟨b, o, none⟩) h⟩
theorem below_then {B : Nat} {w W w1 : World} (h : Below B w W) (hB : B ≤ W.heap.size) (hb : Below W.heap.size W w1) : Below B w w1 := h.trans (hb.mono hB)
theorem ret_int {k : IntKind} {a b : Int} (h : a = b) : Ending.returned (.int k a) = .returned (.int k b) := by rw [h]
theorem ret_bool {a b : Bool} (h : a = b) : Ending.returned (.bool a) = .returned (.bool b) := by rw [h]


/-! ### A region that draws its order, whose own operations only read and whose callees leave old memory alone: one walk, in the order of the text. -/
/-- A world that is as W was below W's heap's end. -/
structure Blur (W : World) where
  w : World
  below : Below W.heap.size W w
def blur {W : World} (z : Blur W) : World := z.w
theorem wp_region_blur {P : Program} {id : Nat} {Q : Exit → Act → World → Prop} {a : Act} {W : World} {l : List Oper} (hm : P.follows .mixedOrders = true) (hB : Region.lexB .any l.toArray = true)
    (h : (∀ (z : Blur W) (b o : Nat), b < W.heap.size → (blur z).cell? ⟨b, o, none⟩ = W.cell? ⟨b, o, none⟩) →
      wpQuiet P l.toArray (fun w' => ∃ z : Blur W, w' = blur z) (fun a' => ∀ w', Below W.heap.size W w' → Q .normal a' w') l a) : (Code.region id l.toArray true).wp P Q a W := by
  refine wp_region_quiet (C := fun w' => ∃ z : Blur W, w' = blur z) hm hB ⟨⟨_, (Below.refl _ _).drew⟩, rfl⟩ ?_
  have h' := h (fun z b o hb => z.below.cell (p := ⟨b, o, none⟩) hb)
  have key : ∀ (m : List Oper) (a : Act), wpQuiet P l.toArray (fun w' => ∃ z : Blur W, w' = blur z) (fun a' => ∀ w', Below W.heap.size W w' → Q .normal a' w') m a →
      wpQuiet P l.toArray (fun w' => ∃ z : Blur W, w' = blur z) (fun a' => ∀ w', (∃ z : Blur W, w' = blur z) → Q .normal a' w') m a := by
    intro m
    induction m with
    | nil => intro a hh w' hz; obtain ⟨z, rfl⟩ := hz; exact hh _ z.below
    | cons o m ih =>
      intro a hh
      unfold wpQuiet at hh ⊢
      split
      · rename_i hw
        rw [if_pos hw] at hh
        exact Oper.quiet_mono (fun a ha => ih a ha) hh
      · rename_i hw
        rw [if_neg hw] at hh
        exact ih _ hh
  simpa using key l a h'
theorem blur_call {P : Program} {f : FuncId} {args : Array Value} {W : World} {z : Blur W} {v : Value}
    (h : Calls P f args (blur z) fun e w' => e = .returned v ∧ Below (blur z).heap.size (blur z) w') : Calls P f args (blur z) fun e w'' => e = .returned v ∧ ∃ z' : Blur W, w'' = blur z' :=
  h.mono fun _ w' ⟨he, hb⟩ => ⟨he, ⟨w', z.below.trans (hb.mono z.below.size)⟩, rfl⟩
theorem blur_call_same {P : Program} {f : FuncId} {args : Array Value} {W : World} {z : Blur W} {v : Value}
    (h : Calls P f args (blur z) fun e w' => e = .returned v ∧ blur z = w') : Calls P f args (blur z) fun e w'' => e = .returned v ∧ ∃ z' : Blur W, w'' = blur z' :=
  h.mono fun _ _ ⟨he, hb⟩ => ⟨he, z, hb.symm⟩
theorem blur_call_drew {P : Program} {f : FuncId} {args : Array Value} {W : World} {z : Blur W} {v : Value}
    (h : Calls P f args (blur z) fun e w' => e = .returned v ∧ ∃ m, w' = (blur z).drewN m) : Calls P f args (blur z) fun e w'' => e = .returned v ∧ ∃ z' : Blur W, w'' = blur z' :=
  h.mono fun _ w' ⟨he, m, hb⟩ => ⟨he, ⟨w', by rw [hb]; exact below_drewN' z.below m⟩, rfl⟩
end Go.Proofs.Ytkipaefhnmfebaa
