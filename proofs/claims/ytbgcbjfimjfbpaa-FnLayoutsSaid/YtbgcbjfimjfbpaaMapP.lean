/-
  Maps from places that a call makes: to bools, to numbers.
-/
import Derived.Test.YtbgcbjfimjfbpaaPlc
import Derived.Test.YtbgcbjfimjfbpaaFrame
import Derived.DeepKeys4
import Derived.Maps.Own
import Derived.Maps.OwnOps
import Derived.Maps.OwnSet
import Derived.Maps.Views
namespace Go.Proofs.Ytbgcbjfimjfbpaa
open Go.RowKit

theorem rowPlace : (142 : TypeId) < Try.prog.types.size := of_decide_eq_true (by kernel_rfl)
theorem cellsPlace : Try.prog.cellsOf 142 = 2 := by kernel_rfl
theorem cellsInt : Try.prog.cellsOf 2 = 1 := by kernel_rfl
theorem keyType2Place : Try.prog.keyTypeAt 2 142 = true := by kernel_rfl
theorem lawPlace : WideMaps.KeyLaw Try.prog 142 := deep_law_laid laidOut (m := 2) (Nat.le_of_ble_eq_true rfl) rowPlace keyType2Place (by rw [Try.underlying142])
theorem keyedPlace : Maps.Keyed Try.prog 142 := Maps.Keyed.of_law lawPlace
theorem keyTypePlace : Try.prog.keyType 142 = true := by kernel_rfl
/-- What a place reads as, as a key. -/
def PK (r c : Int) : Lit := .string (keyBytes [.int .i64 r, .int .i64 c])
def I64 (n : Int) : Prop := -9223372036854775808 ≤ n ∧ n ≤ 9223372036854775807
theorem I64.wf {n : Int} (h : I64 n) : (Lit.int .i64 n).wf = true := by
  have h1 : IntKind.i64.min = -9223372036854775808 := rfl
  have h2 : IntKind.i64.max = 9223372036854775807 := rfl
  unfold I64 at h
  simp only [Lit.wf, Bool.and_eq_true, decide_eq_true_eq]
  omega
theorem keyP {r c : Int} (hr : I64 r) (hc : I64 c) : keyOf Try.prog 142 (.agg #[.int .i64 r, .int .i64 c]) = some (PK r c) := by
  have hf : (Value.agg #[.int .i64 r, .int .i64 c]).formed Try.prog 142 = true := by simp [Value.formed, Try.underlying142, cellsPlace]
  obtain ⟨m, hm⟩ : ∃ m, Try.prog.types.size = m + 1 := Nat.exists_eq_succ_of_ne_zero (Nat.ne_of_gt (Nat.lt_of_le_of_lt (Nat.zero_le _) rowPlace))
  unfold keyOf
  rw [Try.underlying142]
  simp only [keyTypePlace, hf, Bool.and_self, if_true]
  rw [hm]
  simp [Program.keyLits, Try.underlying142, Try.underlying2, cellsPlace, cellsInt, Value.cells, hr.wf, hc.wf, PK]
theorem PK_inj {r c r' c' : Int} (hr : I64 r) (hc : I64 c) (hr' : I64 r') (hc' : I64 c') (h : PK r c = PK r' c') : r = r' ∧ c = c' := by
  have h1 := keyP hr hc
  rw [h] at h1
  have := keyedPlace.inj h1 (keyP hr' hc')
  simpa using this
/-- Block b is a map of at most n places, those of which f tells. -/
def MapP (w : World) (b n : Nat) (f : Int → Int → Bool) : Prop :=
  ∃ D : DataW Unit, w.ownsMap Try.prog 142 (plainElem Try.prog 4) b n D ∧ ∀ r c, I64 r → I64 c → D.atKey (PK r c) (.lit (.bool false)) = .lit (.bool (f r c))
section
variable {w w' : World} {b n B : Nat} {f : Int → Int → Bool}
theorem MapP.lt (h : MapP w b n f) : b < w.heap.size := by obtain ⟨D, h1, _⟩ := h; exact h1.lt
theorem MapP.made (w : World) : MapP (w.alloc (.map #[] 0)) w.heap.size 0 (fun _ _ => false) := ⟨.map [], World.ownsMap_made _ _ _ _, fun _ _ _ _ => rfl⟩
theorem MapP.kept {row : Option Nat} (h : MapP w b n f) (hg : w.grownBy w' row) (hne : some b ≠ row) : MapP w' b n f := by
  obtain ⟨D, h1, h2⟩ := h; exact ⟨D, World.ownsMap.kept h1 hg hne, h2⟩
theorem MapP.below (h : MapP w b n f) (hb : Below B w w') (hB : b < B) : MapP w' b n f := by
  obtain ⟨D, ⟨es, clock, hh, F, hs, hD⟩, h2⟩ := h
  exact ⟨D, ⟨es, clock, (hb.block b hB).trans hh, F, hs, hD⟩, h2⟩
theorem MapP.setCell (h : MapP w b n f) {p : Addr} (hp : b ≠ p.block) (u : Value) : MapP (w.setCell p u) b n f := by
  obtain ⟨D, h1, h2⟩ := h; exact ⟨D, World.ownsMap.setCell h1 hp u, h2⟩
theorem zero_bool (w : World) : (zeroValue 4).run Try.prog w = .ok (.bool false) w := by kernel_rfl
theorem plainElem_bool_inv {P : Program} {e : TypeId} (he : P.underlying e = some .bool) {v : Value} {z : DataW Unit × List MemPlace} (h : plainElem P e v = some z) {x : Bool} (hx : z.1 = .lit (.bool x)) : v = .bool x := by
  unfold plainElem at h
  rw [he] at h
  cases v <;> simp at h
  subst h
  simpa using hx
theorem MapP.look (h : MapP w b n f) {r c : Int} (hr : I64 r) (hc : I64 c) :
    (Instr.lookup 139 (.map (some b)) (.agg #[.int .i64 r, .int .i64 c]) false).run Try.prog w = .ok (.bool (f r c)) w := by
  obtain ⟨D, h1, h2⟩ := h
  obtain ⟨v, ps, hrun, hv⟩ := h1.lookup keyedPlace Try.underlying139 (zero_bool w) (plainElem_bool Try.underlying4 false) (keyP hr hc)
  rw [h2 r c hr hc] at hv
  rw [hrun, plainElem_bool_inv Try.underlying4 hv rfl]
theorem MapP.put {D : DataW Unit} (h2 : ∀ r c, I64 r → I64 c → D.atKey (PK r c) (.lit (.bool false)) = .lit (.bool (f r c))) (hm : Maps.IsMap D) {r c : Int} (hr : I64 r) (hc : I64 c) :
    ∀ r' c', I64 r' → I64 c' → (D.put (PK r c) (.lit (.bool true))).atKey (PK r' c') (.lit (.bool false)) = .lit (.bool (f r' c' || (r' == r && c' == c))) := by
  intro r' c' hr' hc'
  by_cases e : PK r' c' = PK r c
  · rw [e, Maps.atKey_put_same hm (keyedPlace.key (keyP hr hc))]
    obtain ⟨rfl, rfl⟩ := PK_inj hr' hc' hr hc e
    simp
  · rw [Maps.atKey_put_other e, h2 r' c' hr' hc']
    have : ¬ (r' = r ∧ c' = c) := fun ⟨h1, h2⟩ => e (by rw [h1, h2])
    by_cases e1 : r' = r
    · have e2 : ¬ c' = c := fun q => this ⟨e1, q⟩
      simp [e2]
    · simp [e1]
end
end Go.Proofs.Ytbgcbjfimjfbpaa
