/-
  What stays as it was while a law looks at two slices of numbers that a call has made.
-/
import Derived.Test.YteghpageamehkaaTk
import Derived.Test.YteghpageamehkaaArgG
namespace Go.Proofs.Yteghpageamehkaa
set_option linter.unusedSimpArgs false
open Go.RowKit

/-- In w (grown from w0): the block of the argument o0, the block of the copy o1 with number b1, two slices made from B on, two lists made below b2. -/
def TkP (w0 : World) (b1 b2 B : Nat) (o0 o1 : Obj) (v1 : Value) (es : List Int) (v2 : Value) (us : List Int) (Aa Ab : Option Addr) (n1 n2 : Nat) (x y : List Int) (w : World) : Prop :=
  (w0.heap.size < b2 ∧ b2 ≤ b1 ∧ b1 < B ∧ B ≤ w.heap.size) ∧ Below w0.heap.size w0 w ∧ w.heap[w0.heap.size]? = some o0 ∧ w.heap[b1]? = some o1 ∧ TwoI w B v1 es v2 us ∧ RI w b2 Aa n1 x ∧ RI w b2 Ab n2 y
section
variable {w0 w w' : World} {b1 b2 B : Nat} {o0 o1 : Obj} {v1 v2 : Value} {es us es' x y : List Int} {Aa Ab : Option Addr} {n1 n2 : Nat}
theorem TkP.sz (h : TkP w0 b1 b2 B o0 o1 v1 es v2 us Aa Ab n1 n2 x y w) : w0.heap.size < b2 ∧ b2 ≤ b1 ∧ b1 < B ∧ B ≤ w.heap.size := h.1
theorem TkP.bw (h : TkP w0 b1 b2 B o0 o1 v1 es v2 us Aa Ab n1 n2 x y w) : Below w0.heap.size w0 w := h.2.1
theorem TkP.k0 (h : TkP w0 b1 b2 B o0 o1 v1 es v2 us Aa Ab n1 n2 x y w) : w.heap[w0.heap.size]? = some o0 := h.2.2.1
theorem TkP.k1 (h : TkP w0 b1 b2 B o0 o1 v1 es v2 us Aa Ab n1 n2 x y w) : w.heap[b1]? = some o1 := h.2.2.2.1
theorem TkP.t (h : TkP w0 b1 b2 B o0 o1 v1 es v2 us Aa Ab n1 n2 x y w) : TwoI w B v1 es v2 us := h.2.2.2.2.1
theorem TwoI.fst (h : TwoI w B v1 es v2 us) : Own w B v1 es := h.1
theorem TwoI.snd (h : TwoI w B v1 es v2 us) : Own w B v2 us := h.2.1
theorem TkP.own1 (h : TkP w0 b1 b2 B o0 o1 v1 es v2 us Aa Ab n1 n2 x y w) : Own w B v1 es := h.t.1
theorem TkP.own2 (h : TkP w0 b1 b2 B o0 o1 v1 es v2 us Aa Ab n1 n2 x y w) : Own w B v2 us := h.t.2.1
theorem TkP.ra (h : TkP w0 b1 b2 B o0 o1 v1 es v2 us Aa Ab n1 n2 x y w) : RI w b2 Aa n1 x := h.2.2.2.2.2.1
theorem TkP.rb (h : TkP w0 b1 b2 B o0 o1 v1 es v2 us Aa Ab n1 n2 x y w) : RI w b2 Ab n2 y := h.2.2.2.2.2.2
theorem TkP.below (h : TkP w0 b1 b2 B o0 o1 v1 es v2 us Aa Ab n1 n2 x y w) (hb : Below w.heap.size w w') : TkP w0 b1 b2 B o0 o1 v1 es v2 us Aa Ab n1 n2 x y w' := by
  obtain ⟨⟨h1, h2, h3, h4⟩, hB, k0, k1, hT, ra, rb⟩ := h
  have hs := hb.size
  exact ⟨⟨h1, h2, h3, by omega⟩, hB.trans (hb.mono (by omega)), (hb.block _ (by omega)).trans k0, (hb.block _ (by omega)).trans k1, hT.keep hb, ra.below (hb.mono (by omega)), rb.below (hb.mono (by omega))⟩
theorem TkP.row0 {r : Option Nat} (h : TkP w0 b1 b2 B o0 o1 v1 es v2 us Aa Ab n1 n2 x y w) (hg : w.grownBy w' r) (hr : ∀ k, r = some k → b2 ≤ k ∧ k < b1) : TkP w0 b1 b2 B o0 o1 v1 es v2 us Aa Ab n1 n2 x y w' := by
  obtain ⟨⟨h1, h2, h3, h4⟩, hB, k0, k1, hT, ra, rb⟩ := h
  have hs := hg.size
  have hk : ∀ v zs, Own w B v zs → Own w' B v zs := fun v zs ho => World.ownsRow.kept ho hg (by
    cases hv : v.ownBlock with
    | none => exact .inl rfl
    | some k => exact .inr fun e => by have a := (World.ownsRow.lt ho k hv).1; have b := (hr k e.symm).2; omega)
  exact ⟨⟨h1, h2, h3, by omega⟩, hB.grown hg (by omega) (fun k e => by have := (hr k e).1; omega), (hg.block _ (by omega) (fun e => by have := (hr _ e.symm).1; omega)).trans k0, (hg.block _ (by omega) (fun e => by have := (hr _ e.symm).2; omega)).trans k1,
    ⟨hk _ _ hT.1, hk _ _ hT.2.1, hT.2.2⟩, ra.grown hg (by omega) (fun k e => (hr k e).1), rb.grown hg (by omega) (fun k e => (hr k e).1)⟩
theorem TkP.swap (h : TkP w0 b1 b2 B o0 o1 v1 es v2 us Aa Ab n1 n2 x y w) : TkP w0 b1 b2 B o0 o1 v2 us v1 es Ab Aa n2 n1 y x w := by
  obtain ⟨h1, hB, k0, k1, hT, ra, rb⟩ := h
  exact ⟨h1, hB, k0, k1, hT.symm, rb, ra⟩
theorem TkP.mark (h : TkP w0 b1 b2 B o0 o1 v1 es v2 us Aa Ab n1 n2 x y w) (ho : Own w' B v1 es') (hg : w.grownBy w' v1.ownBlock) : TkP w0 b1 b2 B o0 o1 v1 es' v2 us Aa Ab n1 n2 x y w' := by
  obtain ⟨⟨h1, h2, h3, h4⟩, hB, k0, k1, hT, ra, rb⟩ := h
  have hs := hg.size
  have hr : ∀ k, v1.ownBlock = some k → B ≤ k := fun k e => (World.ownsRow.lt hT.1 k e).1
  exact ⟨⟨h1, h2, h3, by omega⟩, hB.grown hg (by omega) (fun k e => by have := hr k e; omega), (hg.block _ (by omega) (fun e => by have := hr _ e.symm; omega)).trans k0, (hg.block _ (by omega) (fun e => by have := hr _ e.symm; omega)).trans k1,
    ⟨ho, hT.second hg, hT.2.2⟩, ra.grown hg (by omega) (fun k e => by have := hr k e; omega), rb.grown hg (by omega) (fun k e => by have := hr k e; omega)⟩
end
theorem eqI_same (A1 A2 : Option Addr) (n c1 c2 : Nat) (xs : List Int) (w : World) (B1 B2 : Nat) (hr1 : RI w B1 A1 n xs) (hr2 : RI w B2 A2 n xs) (hn : n ≤ 1000000000000) :
    Calls Try.prog 22 #[.slice A1 n c1, .slice A2 n c2] w fun e w' => e = .returned (.bool true) ∧ Below w.heap.size w w' :=
  (eqInt64S_any A1 A2 n n c1 c2 xs xs w B1 B2 hr1 hr2 hn hn).mono fun e w' ⟨h1, m, h2⟩ => ⟨by rw [h1]; simp, by subst h2; exact below_drewN' (Below.refl _ _) m⟩
end Go.Proofs.Yteghpageamehkaa
