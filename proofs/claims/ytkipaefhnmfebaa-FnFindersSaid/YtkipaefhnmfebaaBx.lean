/-
  Calls that write one known block, of which an invariant is kept: draws from a source.
-/
import Derived.Test.YtkipaefhnmfebaaSrc
import Derived.Test.YtkipaefhnmfebaaDice
namespace Go.Proofs.Ytkipaefhnmfebaa
open Go.RowKit

/-- A block that calls write, and what is kept of it. -/
structure SP where
  b : Nat
  I : World → Prop
  lt : ∀ {w : World}, I w → b < w.heap.size
  st : ∀ {w w' : World}, Below (b + 1) w w' → I w → I w'
/-- Below block number B the world w' is as w was, but for the one block; of this the invariant is kept. -/
structure BX (s : SP) (B : Nat) (w w' : World) : Prop where
  os : w'.os = w.os
  tape : w'.tape = w.tape
  output : w'.output = w.output
  size : w.heap.size ≤ w'.heap.size
  block : ∀ k, k < B → k ≠ s.b → w'.heap[k]? = w.heap[k]?
  inv : s.I w → s.I w'
section
variable {s : SP} {B B' : Nat} {a w w' : World}
theorem BX.refl (s : SP) (B : Nat) (w : World) : BX s B w w := ⟨rfl, rfl, rfl, Nat.le_refl _, fun _ _ _ => rfl, id⟩
theorem BX.trans {a b c : World} (h : BX s B a b) (k : BX s B b c) : BX s B a c :=
  ⟨k.os.trans h.os, k.tape.trans h.tape, k.output.trans h.output, Nat.le_trans h.size k.size, fun i hi hn => (k.block i hi hn).trans (h.block i hi hn), fun hi => k.inv (h.inv hi)⟩
theorem BX.mono (h : BX s B w w') (hB : B' ≤ B) : BX s B' w w' := ⟨h.os, h.tape, h.output, h.size, fun k hk => h.block k (Nat.lt_of_lt_of_le hk hB), h.inv⟩
theorem BX.of_below (h : Below B w w') (hb : s.b < B) : BX s B w w' := ⟨h.os, h.tape, h.output, h.size, fun k hk _ => h.block k hk, fun hi => s.st (h.mono (by omega)) hi⟩
theorem BX.drew (h : BX s B a w) : BX s B a w.drew := ⟨h.os, h.tape, h.output, h.size, h.block, fun hi => s.st (Below.refl _ _).drew (h.inv hi)⟩
theorem BX.drewN (h : BX s B a w) (n : Nat) : BX s B a (w.drewN n) := ⟨h.os, h.tape, h.output, h.size, h.block, fun hi => s.st (below_drewN' (Below.refl _ _) n) (h.inv hi)⟩
theorem BX.alloc (h : BX s B a w) (hB : B ≤ w.heap.size) (o : Obj) : BX s B a (w.alloc o) :=
  h.trans ⟨rfl, rfl, rfl, by simp, fun k hk _ => Below.heap_alloc _ _ _ (by omega), fun hi => s.st ((Below.refl _ _).alloc (by have := s.lt hi; omega) o) hi⟩
theorem BX.setCell (h : BX s B a w) {p : Addr} (hp : B ≤ p.block) (hb : s.b < p.block) (u : Value) : BX s B a (w.setCell p u) :=
  h.trans ⟨rfl, rfl, rfl, by simp [World.setCell], fun k hk _ => Below.heap_setCell _ _ _ _ (by omega), fun hi => s.st ((Below.refl _ _).setCell (by omega) u) hi⟩
theorem BX.cell (h : BX s B w w') {b o : Nat} (hb : b < B) (hn : b ≠ s.b) : w'.cell? ⟨b, o, none⟩ = w.cell? ⟨b, o, none⟩ := World.cell?_of_block (w := w) (h.block b hb hn)
theorem BX.frozen (h : BX s B w w') {b o : Nat} (hb : b < B) (hn : b ≠ s.b) : w'.frozen? ⟨b, o, none⟩ = w.frozen? ⟨b, o, none⟩ := World.frozen?_of_block (w := w) (h.block b hb hn)
theorem BX.grown {row : Option Nat} (h : BX s B a w) (hg : w.grownBy w' row) (hB : B ≤ w.heap.size) (hr : ∀ k, row = some k → B ≤ k ∧ s.b < k) : BX s B a w' :=
  h.trans ⟨hg.os, hg.tape, hg.output, hg.size, fun k hk _ => hg.block k (by omega) (fun e => by have := (hr k e.symm).1; omega), fun hi => s.st ((Below.refl _ _).grown hg (by have := s.lt hi; omega) (fun k hk => by have := (hr k hk).2; omega)) hi⟩
theorem BX.then (h : BX s B w w') (hB : B ≤ w'.heap.size) {w'' : World} (hb : BX s w'.heap.size w' w'') : BX s B w w'' := h.trans (hb.mono hB)
theorem BX.thenB (h : BX s B w w') (hB : B ≤ w'.heap.size) {w'' : World} (hb : Below w'.heap.size w' w'') : BX s B w w'' :=
  h.trans ⟨hb.os, hb.tape, hb.output, hb.size, fun k hk _ => hb.block k (by omega), fun hi => s.st (hb.mono (by have := s.lt hi; omega)) hi⟩
theorem BX.below (h : BX s B w w') (hb : B ≤ s.b) : Below B w w' := ⟨h.os, h.tape, h.output, h.size, fun k hk => h.block k hk (by omega)⟩
theorem BX.row (hg : w.grownBy w' (some s.b)) (hi : s.I w → s.I w') : BX s w.heap.size w w' := ⟨hg.os, hg.tape, hg.output, hg.size, fun k hk hn => hg.block k hk (by simpa using hn), hi⟩
end
theorem bxinv {s : SP} {B : Nat} {w w' : World} (h : BX s B w w') (HI : Hid (s.I w)) : s.I w' := h.inv HI.out
theorem bxcell {s : SP} {W w1 : World} (hb : BX s W.heap.size W w1) : ∀ b o, s.b < b → b < W.heap.size → w1.cell? ⟨b, o, none⟩ = W.cell? ⟨b, o, none⟩ := fun _ _ h1 h2 => hb.cell h2 (by omega)
theorem bxfrozen {s : SP} {W w1 : World} (hb : BX s W.heap.size W w1) : ∀ b o, s.b < b → b < W.heap.size → w1.frozen? ⟨b, o, none⟩ = W.frozen? ⟨b, o, none⟩ := fun _ _ h1 h2 => hb.frozen h2 (by omega)
/-- The source of a code. -/
def srcP (t b : Nat) (A : Option Addr) (n c : Nat) (bs : List Int) (B : Nat) : SP where
  b := b
  I w := SrcW w t b A n c ∧ RB w B A n bs ∧ B ≤ b ∧ n ≤ 4096
  lt := fun h => h.1.lt
  st := fun hb h => ⟨h.1.below hb (by omega), h.2.1.below (hb.mono (by omega)), h.2.2⟩
@[go_sem, simp] theorem srcP_b (t b : Nat) (A : Option Addr) (n c : Nat) (bs : List Int) (B : Nat) : (srcP t b A n c bs B).b = b := rfl
theorem srcP_lt {t b : Nat} {A : Option Addr} {n c : Nat} {bs : List Int} {B : Nat} {w : World} (h : (srcP t b A n c bs B).I w) : b < w.heap.size := SP.lt _ h
def diceP (t b : Nat) (A : Option Addr) (n c : Nat) (bs : List Int) (B : Nat) : SP where
  b := b
  I w := DiceW w t b A n c ∧ RB w B A n bs ∧ B ≤ b ∧ n ≤ 4096
  lt := fun ⟨⟨_, _, h, _⟩, _⟩ => lt_of_block h
  st := fun hb h => ⟨by obtain ⟨a, x, h1, h2⟩ := h.1; exact ⟨a, x, (hb.block _ (by omega)).trans h1, h2⟩, h.2.1.below (hb.mono (by omega)), h.2.2⟩
theorem draw_any (b : Nat) (A : Option Addr) (n c : Nat) (bs : List Int) (B : Nat) (m : Int) (w : World) (hI : (srcP 97 b A n c bs B).I w) (hm : m ≤ 9223372036854775807) :
    Calls Try.prog 62 #[.pointer (some ⟨b, 0, none⟩), .int .i64 m] w fun e w' =>
      ∃ u, e = .returned u ∧ (∃ r : Int, u = .int .i64 r ∧ 0 ≤ r ∧ r < max m 1) ∧ BX (srcP 97 b A n c bs B) w.heap.size w w' :=
  (l01Next_any b A n c bs m w B hI.1 hI.2.1 hI.2.2.1 hI.2.2.2 hm).mono fun _ _ ⟨r, h1, h2, h3, h4, h5⟩ => ⟨_, h1, ⟨r, rfl, h2, h3⟩, BX.row (s := srcP 97 b A n c bs B) h5 fun hi => ⟨h4, hi.2.1.keep (fun p hp => World.cell?_of_block (h5.block p.block (by have := hI.1.lt; have := hI.2.2.1; omega) (by have := hI.2.2.1; simp; omega))), hi.2.2⟩⟩
end Go.Proofs.Ytkipaefhnmfebaa
