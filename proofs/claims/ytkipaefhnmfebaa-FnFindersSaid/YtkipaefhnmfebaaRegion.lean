/-
  A region that draws its order: some operations only read or call quietly, some make a new block, the rest (the tail) stands behind all of these in one forced order. ONE WALK, in the order of the text, serves every order.
  Quiet here: in every world that is as W was below W's heap's end the operation yields one value; it leaves the very world, or (a call) a world with new blocks alone.
-/
import Derived.Test.YtkipaefhnmfebaaCore
import Derived.StillTail
namespace Go.Proofs.Ytkipaefhnmfebaa
open Go.RowKit

section
variable {P : Program} {ops : Array Oper} {W : World} {a0 : Act}

instance : Nonempty (Blur W) := ⟨⟨W, Below.refl _ _⟩⟩

def quietUp (P : Program) {W : World} (z : Blur W) (v : Value) : Result Next → Prop
  | .ok (.value u) w' => w' = blur z ∧ u = v
  | .ok .skip w' => w' = blur z ∧ v = undef
  | .ok (.enter f args) w' => w' = blur z ∧ Calls P f args (blur z) (fun e w'' => e = .returned v ∧ Below (blur z).heap.size (blur z) w'')
  | _ => False
def quietB (P : Program) (W : World) (o : Oper) (a : Act) (v : Value) : Prop := ∀ z : Blur W, quietUp P z v ((execOp a.eval o).run P (blur z))
def quietK (P : Program) (W : World) (o : Oper) (a : Act) (K : Act → Prop) : Prop := ∃ v, quietB P W o a v ∧ K (a.put o.dst v)

/-- An operation that makes a block. -/
def isMk (cs : List Tmp) (o : Oper) : Bool := match o.op with
  | .alloc _ | .buildSlice .. | .makeSlice .. => true
  | .call _ => (match o.dst with | some d => cs.contains d | none => false)
  | _ => false

def wpQ (P : Program) (cs : List Tmp) (ops : Array Oper) (W : World) (K : Act → Prop) : List Oper → Act → Prop
  | [], a => K a
  | o :: r, a => if isMk cs o then wpQ P cs ops W K r a else if Region.wanted o (yielded ops a.tmps) then quietK P W o a (wpQ P cs ops W K r) else wpQ P cs ops W K r (a.put o.dst undef)
theorem wpQ_nil {cs : List Tmp} {K : Act → Prop} {a : Act} (h : K a) : wpQ P cs ops W K [] a := h
theorem wpQ_pass {cs : List Tmp} {K : Act → Prop} {a : Act} {o : Oper} {r : List Oper} (hm : isMk cs o = true) (h : wpQ P cs ops W K r a) : wpQ P cs ops W K (o :: r) a := by
  unfold wpQ; rw [if_pos hm]; exact h
theorem wpQ_step {cs : List Tmp} {K : Act → Prop} {a : Act} {o : Oper} {r : List Oper} (hm : isMk cs o = false)
    (h : ∀ K' : Act → Prop, (∀ a, wpQ P cs ops W K r a → K' a) → if Region.wanted o (yielded ops a.tmps) then quietK P W o a K' else K' (a.put o.dst undef)) : wpQ P cs ops W K (o :: r) a := by
  unfold wpQ; rw [if_neg (by rw [hm]; exact Bool.false_ne_true)]; exact h _ (fun _ h => h)

/-- What the quiet walk shows of one operation. -/
def YB (P : Program) (ops : Array Oper) (W : World) (o : Oper) (a : Act) (v : Value) : Prop :=
  (Region.wanted o (yielded ops a.tmps) = true ∧ quietB P W o a v) ∨ (Region.wanted o (yielded ops a.tmps) = false ∧ v = undef)

/-- The frame in which the operations of S have yielded their values. -/
def canon (ops : Array Oper) (a0 : Act) (S : Nat → Bool) (val : Nat → Value) : Nat → Act
  | 0 => a0
  | m + 1 => match ops[m]? with
    | some o => if S m then (canon ops a0 S val m).put o.dst (val m) else canon ops a0 S val m
    | none => canon ops a0 S val m

theorem canon_congr {S S' : Nat → Bool} {val val' : Nat → Value} : ∀ m, (∀ k, k < m → S k = S' k) → (∀ k, k < m → S k = true → val k = val' k) → canon ops a0 S val m = canon ops a0 S' val' m
  | 0, _, _ => rfl
  | m + 1, h1, h2 => by
    have ih := canon_congr m (fun k hk => h1 k (by omega)) (fun k hk => h2 k (by omega))
    unfold canon
    rw [ih, ← h1 m (by omega)]
    cases ho : ops[m]? with
    | none => rfl
    | some o =>
      cases hs : S m with
      | false => rfl
      | true => simp only [if_true]; rw [h2 m (by omega) hs]

theorem canon_set {S S' : Nat → Bool} {val : Nat → Value} {i : Nat} {o : Oper} (hi : ops[i]? = some o) (hS : S i = false) (hS' : ∀ k, S' k = (decide (k = i) || S k)) :
    ∀ m, i < m → (∀ k, k < m → k ≠ i → ∀ ok, ops[k]? = some ok → ∀ d, o.dst = some d → ok.dst ≠ some d) → canon ops a0 S' val m = (canon ops a0 S val m).put o.dst (val i)
  | 0, h, _ => absurd h (by omega)
  | m + 1, h, hd => by
    by_cases hmi : m = i
    · subst hmi
      have e := canon_congr (ops := ops) (a0 := a0) (S := S') (S' := S) (val := val) (val' := val) m (fun k hk => by rw [hS' k]; simp; omega) (fun _ _ _ => rfl)
      unfold canon
      rw [hi, e]
      simp only [hS' m, decide_true, Bool.true_or, if_true, hS, Bool.false_eq_true, if_false]
    · have ih := canon_set (val := val) hi hS hS' m (by omega) (fun k hk => hd k (by omega))
      unfold canon
      rw [ih, show S' m = S m from by rw [hS' m]; simp [hmi]]
      cases ho : ops[m]? with
      | none => rfl
      | some om =>
        cases hs : S m with
        | false => rfl
        | true => simp only [if_true]; exact Act.put_comm _ _ _ (fun d hd1 => hd m (by omega) hmi om ho d hd1)

/-- Two frames agree on some slots. -/
def Agree (T : List Tmp) (a b : Act) : Prop := ∀ t ∈ T, a.tmps[t]? = b.tmps[t]?
theorem Agree.put_both {T : List Tmp} {a b : Act} (h : Agree T a b) (d : Option Tmp) (v : Value) : Agree T (a.put d v) (b.put d v) := by
  intro t ht
  cases d with
  | none => exact h t ht
  | some d =>
    have := h t ht
    simp only [Act.put]
    by_cases e : d = t
    · subst e
      simp only [Array.getElem?_setIfInBounds_self]
      by_cases h1 : d < a.tmps.size
      · have h2 : d < b.tmps.size := by
          rw [Array.getElem?_eq_getElem h1] at this
          exact (Array.getElem?_eq_some_iff.1 this.symm).1
        simp [h1, h2]
      · have h2 : ¬ d < b.tmps.size := by
          intro h2
          rw [Array.getElem?_eq_getElem h2] at this
          exact h1 (Array.getElem?_eq_some_iff.1 this).1
        simp [h1, h2]
    · rw [Array.getElem?_setIfInBounds_ne e, Array.getElem?_setIfInBounds_ne e]; exact this
theorem Agree.put_left {T : List Tmp} {a b : Act} (h : Agree T a b) {d : Option Tmp} (v : Value) (hd : ∀ e, d = some e → e ∉ T) : Agree T (a.put d v) b := by
  intro t ht
  cases d with
  | none => exact h t ht
  | some d =>
    have hne : d ≠ t := fun e => hd d rfl (e ▸ ht)
    simp only [Act.put]
    rw [Array.getElem?_setIfInBounds_ne hne]; exact h t ht
theorem Agree.symm {T : List Tmp} {a b : Act} (h : Agree T a b) : Agree T b a := fun t ht => (h t ht).symm
theorem agree_canon {T : List Tmp} {S S' : Nat → Bool} {val val' : Nat → Value} : ∀ m,
    (∀ k, k < m → ∀ ok, ops[k]? = some ok → (∀ d, ok.dst = some d → d ∉ T) ∨ (S k = S' k ∧ (S k = true → val k = val' k))) → Agree T (canon ops a0 S val m) (canon ops a0 S' val' m)
  | 0, _ => fun _ _ => rfl
  | m + 1, h => by
    have ih := agree_canon m (fun k hk => h k (by omega))
    unfold canon
    cases ho : ops[m]? with
    | none => exact ih
    | some o =>
      rcases h m (by omega) o ho with h1 | ⟨h1, h2⟩
      · have key : Agree T (if S m then (canon ops a0 S val m).put o.dst (val m) else canon ops a0 S val m) (canon ops a0 S' val' m) := by
          split
          · exact ih.put_left _ h1
          · exact ih
        have key' := key.symm
        have : Agree T (if S' m then (canon ops a0 S' val' m).put o.dst (val' m) else canon ops a0 S' val' m) (if S m then (canon ops a0 S val m).put o.dst (val m) else canon ops a0 S val m) := by
          split
          · exact key'.put_left _ h1
          · exact key'
        exact this.symm
      · simp only []
        rw [← h1]
        cases hs : S m with
        | false => exact ih
        | true => simp only [if_true]; rw [← h2 hs]; exact ih.put_both _ _
theorem exec_agree {o : Oper} {a b : Act} (hs : ∀ cs c, o.op ≠ .select cs c) (h : Agree (o.looksAt ops) a b) :
    execOp a.eval o = execOp b.eval o ∧ Region.wanted o (yielded ops a.tmps) = Region.wanted o (yielded ops b.tmps) := by
  constructor
  · refine execOp_congr o hs (fun x hx => ?_)
    cases x with
    | tmp t =>
      have ht : t ∈ o.looksAt ops := List.mem_append_left _ (List.mem_filterMap.2 ⟨.tmp t, by simpa using hx, rfl⟩)
      have := h t ht
      simp only [Act.eval, Array.getD_eq_getD_getElem?, this]
    | _ => rfl
  · unfold Region.wanted
    cases hg : o.guard with
    | none => rfl
    | some gw =>
      obtain ⟨g, want⟩ := gw
      have hy : yielded ops a.tmps g = yielded ops b.tmps g := by
        unfold yielded
        cases ht : (ops[g]?).bind (·.dst) with
        | none => rfl
        | some t =>
          have hm : t ∈ o.looksAt ops := List.mem_append_right _ (by simp [hg, ht])
          have := h t hm
          simp [this]
      simp only [hy]

/-! ### The check on the region, and the walk over every order -/
def dstOf (ops : Array Oper) (i : Nat) : Option Tmp := (ops[i]?).bind (·.dst)
def looksOf (ops : Array Oper) (i : Nat) : List Tmp := match ops[i]? with | some o => o.looksAt ops | none => []
def mkAt (cs : List Tmp) (ops : Array Oper) (i : Nat) : Bool := match ops[i]? with | some o => isMk cs o | none => false
/-- Operations i < j: their slots differ; what one looks at the other does not write, unless j is made to wait for i and no block is made by either. -/
def pairOK (cs : List Tmp) (ops : Array Oper) (i j : Nat) : Bool :=
  (match dstOf ops i, dstOf ops j with | some d, some e => d != e | _, _ => true) &&
  ((match dstOf ops j with | some d => !(looksOf ops i).contains d | none => true) || (Region.waitsFor .any ops j i && !mkAt cs ops i && !mkAt cs ops j)) &&
  ((match dstOf ops i with | some d => !(looksOf ops j).contains d | none => true) || (Region.waitsFor .any ops j i && !mkAt cs ops i))
def headOK (cs : List Tmp) (ops : Array Oper) (i : Nat) : Bool := match ops[i]? with
  | some o => o.after.all (fun e => !Region.binds .any e || decide (e.on < i)) && (!isMk cs o || o.guard.isNone)
  | none => false
def qatB (cs : List Tmp) (ops : Array Oper) (na : Nat) : Bool :=
  Region.noSelect ops && decide (na ≤ ops.size) && (List.range na).all (headOK cs ops) && (List.range na).all (fun j => (List.range j).all fun i => pairOK cs ops i j) &&
  (decide (na = ops.size) || (Region.sinkB .any ops na && Region.chainB .any ops na)) &&
  Region.seqB .any ops (ops.size - na) na ((List.replicate na true ++ List.replicate (ops.size - na) false).toArray)

section
variable {P : Program} {cs : List Tmp} {ops : Array Oper} {W : World} {a0 : Act} {na : Nat}

theorem dst_ne {i j : Nat} (h : pairOK cs ops i j = true) {d : Tmp} (hi : dstOf ops i = some d) : dstOf ops j ≠ some d := by
  intro hj
  simp [pairOK, hi, hj] at h
theorem later_looks {i j : Nat} (h : pairOK cs ops i j = true) {d : Tmp} (hi : dstOf ops i = some d) (hl : d ∈ looksOf ops j) : Region.waitsFor .any ops j i = true ∧ mkAt cs ops i = false := by
  simp [pairOK, hi, hl] at h
  exact h.2
theorem elder_looks {i j : Nat} (h : pairOK cs ops i j = true) {d : Tmp} (hj : dstOf ops j = some d) (hl : d ∈ looksOf ops i) : Region.waitsFor .any ops j i = true ∧ mkAt cs ops i = false ∧ mkAt cs ops j = false := by
  simp [pairOK, hj, hl] at h
  have := h.1.2
  exact ⟨this.1.1, this.1.2, this.2⟩

/-- How many of the first operations are still to come. -/
def toCome (listed : Array Bool) : Nat → Nat
  | 0 => 0
  | n + 1 => toCome listed n + (if listed.getD n true then 0 else 1)
theorem toCome_set {listed : Array Bool} {i : Nat} (hu : listed.getD i true = false) : ∀ n, (i < n → toCome (listed.setIfInBounds i true) n + 1 = toCome listed n) ∧ (n ≤ i → toCome (listed.setIfInBounds i true) n = toCome listed n)
  | 0 => ⟨fun h => absurd h (by omega), fun _ => rfl⟩
  | n + 1 => by
    obtain ⟨h1, h2⟩ := toCome_set hu n
    constructor
    · intro h
      unfold toCome
      by_cases hin : i = n
      · subst hin
        rw [h2 (Nat.le_refl _), hu]
        have : (listed.setIfInBounds i true).getD i true = true := by
          rcases Nat.lt_or_ge i listed.size with h' | h' <;> simp [h']
        rw [this]; rfl
      · rw [getD_set_ne true hin]
        have := h1 (by omega)
        omega
    · intro h
      unfold toCome
      rw [h2 (by omega), getD_set_ne true (by omega)]
theorem toCome_zero {listed : Array Bool} : ∀ n, toCome listed n = 0 → ∀ k, k < n → listed.getD k true = true
  | 0, _, k, hk => absurd hk (by omega)
  | n + 1, h, k, hk => by
    unfold toCome at h
    by_cases hkn : k = n
    · subst hkn
      cases hl : listed.getD k true with
      | true => rfl
      | false => rw [hl] at h; simp at h
    · exact toCome_zero n (by omega) k (by omega)
theorem toCome_pos {listed : Array Bool} : ∀ n, 0 < toCome listed n → ∃ k, k < n ∧ listed.getD k true = false ∧ ∀ j, j < k → listed.getD j true = true
  | 0, h => absurd h (by simp [toCome])
  | n + 1, h => by
    by_cases h0 : 0 < toCome listed n
    · obtain ⟨k, hk, hl, hm⟩ := toCome_pos n h0
      exact ⟨k, by omega, hl, hm⟩
    · unfold toCome at h
      refine ⟨n, by omega, ?_, toCome_zero n (by omega)⟩
      cases hl : listed.getD n true with
      | false => rfl
      | true => rw [hl] at h; simp at h; omega

/-- What a maker makes: which value, between which numbers its blocks lie, what they hold; it goes on to hold where other blocks are made. -/
structure Mkr where
  R : Value → Nat → Nat → World → Prop
  keep : ∀ {v : Value} {lo hi : Nat} {w w' : World}, R v lo hi w → hi ≤ w.heap.size → Below hi w w' → R v lo hi w'
/-- An operation that makes one block. -/
def Mkr.blk (mk : Nat → Value) (obj : Obj) : Mkr where
  R v lo hi w := v = mk lo ∧ hi = lo + 1 ∧ w.heap[lo]? = some obj
  keep := fun ⟨h1, h2, h3⟩ _ hb => ⟨h1, h2, (hb.block _ (by omega)).trans h3⟩
/-- A call that makes memory: what it returns is all new, or nil. -/
def Mkr.ints (n : Nat) (xs : List Int) : Mkr where
  R v _ hi w := ∃ A, v = .slice A n n ∧ RI w hi A n xs
  keep := fun ⟨A, h1, h2⟩ _ hb => ⟨A, h1, h2.below hb⟩
/-- A slice of values of one cell each: its cells lie below block B and hold vs. -/
structure RV (w : World) (B : Nat) (A : Option Addr) (n : Nat) (vs : List Value) : Prop where
  len : vs.length = n
  cells : 0 < n → ∃ b o, A = some ⟨b, o, none⟩ ∧ b < B ∧ ∀ k, k < n → w.cell? ⟨b, o + k, none⟩ = vs[k]?
theorem RV.below {w w' : World} {B : Nat} {A : Option Addr} {n : Nat} {vs : List Value} (h : RV w B A n vs) (hb : Below B w w') : RV w' B A n vs :=
  ⟨h.len, fun hn => by
    obtain ⟨b, o, e, hb', hc⟩ := h.cells hn
    exact ⟨b, o, e, hb', fun k hk => (hb.cell (p := ⟨b, o + k, none⟩) hb').trans (hc k hk)⟩⟩
theorem RV.made0 {w : World} {t g n : Nat} {cs : Array Value} {vs : List Value} (hcs : cs = vs.toArray) (hn : vs.length = n) (hg : g = w.heap.size) :
    RV (w.alloc (.cells cs t)) (w.alloc (.cells cs t)).heap.size (some ⟨g, 0, none⟩) n vs := by
  subst hg
  refine ⟨hn, fun _ => ⟨_, 0, rfl, by rw [World.size_alloc]; omega, fun k hk => ?_⟩⟩
  rw [cell_of_row _ _ (0 + k) cs t (0, 0) (heap_alloc_new w _), hcs, Nat.zero_add]
  simp
def Mkr.vals (n : Nat) (vs : List Value) : Mkr where
  R v _ hi w := ∃ A, v = .slice A n n ∧ RV w hi A n vs
  keep := fun ⟨A, h1, h2⟩ _ hb => ⟨A, h1, h2.below hb⟩
theorem ints_call {P : Program} {f : FuncId} {args : Array Value} {w : World} {n : Nat} {xs : List Int}
    (h : Calls P f args w fun e w' => ∃ A, e = .returned (.slice A n n) ∧ RI w' w'.heap.size A n xs ∧ Below w.heap.size w w') :
    Calls P f args w fun e w' => ∃ u, e = .returned u ∧ Below w.heap.size w w' ∧ (Mkr.ints n xs).R u w.heap.size w'.heap.size w' :=
  h.mono fun _ _ ⟨A, h1, h2, h3⟩ => ⟨_, h1, h3, A, rfl, h2⟩
theorem vals_call {P : Program} {f : FuncId} {args : Array Value} {w : World} {n : Nat} {vs : List Value}
    (h : Calls P f args w fun e w' => ∃ A, e = .returned (.slice A n n) ∧ RV w' w'.heap.size A n vs ∧ Below w.heap.size w w') :
    Calls P f args w fun e w' => ∃ u, e = .returned u ∧ Below w.heap.size w w' ∧ (Mkr.vals n vs).R u w.heap.size w'.heap.size w' :=
  h.mono fun _ _ ⟨A, h1, h2, h3⟩ => ⟨_, h1, h3, A, rfl, h2⟩
def makesUp (P : Program) {W : World} (z : Blur W) (m : Mkr) : Result Next → Prop
  | .ok (.value u) w' => Below (blur z).heap.size (blur z) w' ∧ m.R u (blur z).heap.size w'.heap.size w'
  | .ok (.enter f args) w' => w' = blur z ∧ Calls P f args (blur z) (fun e w'' => ∃ u, e = .returned u ∧ Below (blur z).heap.size (blur z) w'' ∧ m.R u (blur z).heap.size w''.heap.size w'')
  | _ => False
theorem makes_blk {P : Program} {W : World} {z : Blur W} {mk : Nat → Value} {obj : Obj} {r : Result Next} (h : r = .ok (.value (mk (blur z).heap.size)) ((blur z).alloc obj)) : makesUp P z (Mkr.blk mk obj) r := by
  subst h
  exact ⟨(Below.refl _ _).alloc (Nat.le_refl _) _, rfl, by rw [World.size_alloc], heap_alloc_new _ _⟩

/-- What has been made. -/
structure Facts (W : World) (cs : List Tmp) (ops : Array Oper) (na : Nat) (m : Nat → Mkr) (S : Nat → Bool) (g : Nat → Value × Nat × Nat) (w : World) : Prop where
  below : Below W.heap.size W w
  made : ∀ k, k < na → mkAt cs ops k = true → S k = true → W.heap.size ≤ (g k).2.1 ∧ (g k).2.1 ≤ (g k).2.2 ∧ (g k).2.2 ≤ w.heap.size ∧ (m k).R (g k).1 (g k).2.1 (g k).2.2 w
  apart : ∀ k j, k < na → j < na → mkAt cs ops k = true → mkAt cs ops j = true → S k = true → S j = true → k ≠ j → (g k).2.2 ≤ (g j).2.1 ∨ (g j).2.2 ≤ (g k).2.1

def valOf (cs : List Tmp) (ops : Array Oper) (V : Nat → Value) (g : Nat → Value × Nat × Nat) (k : Nat) : Value := if mkAt cs ops k then (g k).1 else V k

theorem any_of_inv {Q : Exit → Act → World → Prop} (hB : qatB cs ops na = true) (V : Nat → Value) (m : Nat → Mkr)
    (hY : ∀ i o, i < na → ops[i]? = some o → isMk cs o = false → YB P ops W o (canon ops a0 (fun k => decide (k < i) && !mkAt cs ops k) V na) (V i))
    (hM : ∀ i o, i < na → ops[i]? = some o → isMk cs o = true → ∀ z : Blur W, makesUp P z (m i) ((execOp (canon ops a0 (fun k => !mkAt cs ops k) V na).eval o).run P (blur z)))
    (hK : ∀ g w', Facts W cs ops na m (fun _ => true) g w' → wpAny P .any ops Q (ops.size - na) ((List.replicate na true ++ List.replicate (ops.size - na) false).toArray) (canon ops a0 (fun _ => true) (valOf cs ops V g) na) w') :
    ∀ (n : Nat) (listed : Array Bool) (g : Nat → Value × Nat × Nat) (w : World), toCome listed na = n → HeadInv .any ops na listed → Facts W cs ops na m (fun k => listed.getD k false) g w →
      wpAny P .any ops Q (n + (ops.size - na)) listed (canon ops a0 (fun k => listed.getD k false) (valOf cs ops V g) na) w := by
  simp only [qatB, Bool.and_eq_true, decide_eq_true_eq, List.all_eq_true, List.mem_range] at hB
  obtain ⟨⟨⟨⟨⟨hsel, hna⟩, hhead⟩, hpair⟩, htail0⟩, hseq⟩ := hB
  have htail : na = ops.size ∨ (Region.sinkB .any ops na = true ∧ Region.chainB .any ops na = true) := by simpa using htail0
  clear htail0
  intro n
  induction n with
  | zero =>
    intro listed g w hn inv hF
    have hall : ∀ k, k < na → listed.getD k false = true := fun k hk => by
      have h1 := toCome_zero na hn k hk
      have hks : k < listed.size := by rw [inv.size]; omega
      simpa [hks] using h1
    have hl : listed = (List.replicate na true ++ List.replicate (ops.size - na) false).toArray := by
      apply Array.ext
      · rw [inv.size]; simp; omega
      · intro k h1 h2
        have hks : k < ops.size := by rw [← inv.size]; exact h1
        by_cases hk : k < na
        · have := hall k hk
          rw [Array.getD_eq_getD_getElem?, Array.getElem?_eq_getElem h1] at this
          simp at this
          rw [this]
          simp [hk]
        · have := inv.tail k (by omega) hks
          rw [Array.getD_eq_getD_getElem?, Array.getElem?_eq_getElem h1] at this
          simp at this
          rw [this]
          simp [List.getElem_append, hk]
    have hc : canon ops a0 (fun k => listed.getD k false) (valOf cs ops V g) na = canon ops a0 (fun _ => true) (valOf cs ops V g) na := canon_congr na (fun k hk => hall k hk) (fun _ _ _ => rfl)
    rw [hc, Nat.zero_add]
    have hF' : Facts W cs ops na m (fun _ => true) g w := ⟨hF.below, fun k hk hm _ => hF.made k hk hm (hall k hk), fun k j hk hj hm hmj _ _ => hF.apart k j hk hj hm hmj (hall k hk) (hall j hj)⟩
    have := hK g w hF'
    rw [hl]
    exact this
  | succ n ih =>
    intro listed g w hn inv hF
    obtain ⟨i0, hi0, hu0, hm0⟩ := toCome_pos na (by rw [hn]; omega)
    have hopsi : ∀ i, i < na → ∃ o, ops[i]? = some o := fun i hi => ⟨_, Array.getElem?_eq_getElem (show i < ops.size by omega)⟩
    rw [show n + 1 + (ops.size - na) = (n + (ops.size - na)) + 1 by omega]
    refine ⟨fun h0 => ?_, fun i hi => ?_⟩
    · -- the first that has not come up may come up
      obtain ⟨o, ho⟩ := hopsi i0 hi0
      have hr : i0 ∈ Region.ready .any ops listed := by
        rw [mem_ready]
        refine ⟨hu0, o, ho, fun e he hb => ?_⟩
        have h1 := hhead i0 hi0
        simp only [headOK, ho, Bool.and_eq_true] at h1
        have h2 := Array.all_eq_true_iff_forall_mem.1 h1.1 e he
        simp [hb] at h2
        have h3 := hm0 e.on h2
        have hks : e.on < listed.size := by rw [inv.size]; omega
        simpa [hks] using h3
      rw [h0] at hr
      cases hr
    · have hin : i < na := by
        rcases Nat.lt_or_ge i na with h | h
        · exact h
        · rcases htail with ht | ⟨hs, hc⟩
          · have := (mem_ready.1 hi).2
            obtain ⟨o, ho, _⟩ := this
            have := (Array.getElem?_eq_some_iff.1 ho).1
            omega
          · rcases Nat.lt_or_ge na ops.size with hlt | hge
            · exact absurd hi (tail_waits hs hc hlt inv _ i0 rfl hi0 hu0 i h)
            · obtain ⟨_, o, ho, _⟩ := mem_ready.1 hi
              have := (Array.getElem?_eq_some_iff.1 ho).1
              omega
      obtain ⟨hun, o, ho, hall⟩ := mem_ready.1 hi
      have hunf : listed.getD i false = false := getD_both hun
      have his : i < listed.size := by rw [inv.size]; omega
      have hwait : ∀ k, Region.waitsFor .any ops i k = true → listed.getD k false = true := by
        intro k hk
        obtain ⟨o', ho', e, he, hb, hon⟩ := Region.waitsFor_spec hk
        have : o' = o := Option.some.inj (ho'.symm.trans ho)
        subst this
        rw [← hon]; exact hall e he hb
      have hwaited : ∀ k, Region.waitsFor .any ops k i = true → listed.getD k false = false := by
        intro k hk
        obtain ⟨o', ho', e, he, hb, hon⟩ := Region.waitsFor_spec hk
        cases hl : listed.getD k false with
        | false => rfl
        | true =>
          have := inv.closed k o' ho' hl e he hb
          rw [hon, hunf] at this
          cases this
      have hlooks : looksOf ops i = o.looksAt ops := by simp [looksOf, ho]
      have hmki : mkAt cs ops i = isMk cs o := by simp [mkAt, ho]
      have hnext : ∀ k, (listed.setIfInBounds i true).getD k false = (decide (k = i) || listed.getD k false) := by
        intro k
        by_cases hki : k = i
        · subst hki; simp [his]
        · rw [getD_set_ne false (Ne.symm hki)]; simp [hki]
      have hput : ∀ val : Nat → Value, canon ops a0 (fun k => (listed.setIfInBounds i true).getD k false) val na = (canon ops a0 (fun k => listed.getD k false) val na).put o.dst (val i) := by
        intro val
        refine canon_set (S := fun k => listed.getD k false) ho hunf hnext na hin (fun k hk hki ok hok d hd => ?_)
        have e1 : dstOf ops i = some d := by simp [dstOf, ho, hd]
        have e2 : dstOf ops k = ok.dst := by simp [dstOf, hok]
        rcases Nat.lt_or_gt_of_ne hki with h | h
        · intro hc
          exact dst_ne (hpair i hin k h) (e2.trans hc) e1
        · rw [← e2]
          exact dst_ne (hpair k hk i h) e1
      have hinv' := inv.set hi hin
      have hcome : toCome (listed.setIfInBounds i true) na = n := by
        have := (toCome_set hun na).1 hin
        omega
      -- the slots that the operation looks at
      have hag : Agree (o.looksAt ops) (canon ops a0 (fun k => listed.getD k false) (valOf cs ops V g) na) (canon ops a0 (fun k => decide (k < i) && !mkAt cs ops k) V na) := by
        refine agree_canon na (fun k hk ok hok => ?_)
        by_cases hd : ∃ d, ok.dst = some d ∧ d ∈ o.looksAt ops
        · obtain ⟨d, hd1, hd2⟩ := hd
          have e2 : dstOf ops k = some d := by simp [dstOf, hok, hd1]
          rw [← hlooks] at hd2
          refine .inr ?_
          rcases Nat.lt_trichotomy k i with h | h | h
          · obtain ⟨h1, h2⟩ := later_looks (hpair i hin k h) e2 hd2
            have h3 := hwait k h1
            refine ⟨by simp [h3, h, h2], fun _ => by simp [valOf, h2]⟩
          · subst h
            refine ⟨by simp [hunf], fun h => by rw [hunf] at h; cases h⟩
          · obtain ⟨h1, _, _⟩ := elder_looks (hpair k hk i h) e2 hd2
            have h3 := hwaited k h1
            refine ⟨by simp [h3]; omega, fun h => by rw [h3] at h; cases h⟩
        · exact .inl (fun d hd1 hd2 => hd ⟨d, hd1, hd2⟩)
      cases hmk : isMk cs o with
      | false =>
        obtain ⟨he, hw⟩ := exec_agree (Region.noSelect_spec hsel i o · · ho) hag
        have hval : valOf cs ops V g i = V i := by simp [valOf, hmki, hmk]
        have hstep : ∀ w', Below w.heap.size w w' → wpAny P .any ops Q (n + (ops.size - na)) (listed.setIfInBounds i true) ((canon ops a0 (fun k => listed.getD k false) (valOf cs ops V g) na).put o.dst (V i)) w' := by
          intro w' hbw
          have := ih (listed.setIfInBounds i true) g w' hcome hinv' ⟨hF.below.trans (hbw.mono hF.below.size), fun k hk hm hl => by
              have hki : k ≠ i := by intro e; subst e; rw [hmki, hmk] at hm; cases hm
              have hl' : listed.getD k false = true := by have := hl; rw [hnext k] at this; simpa [hki] using this
              obtain ⟨h1, h2, h3, h4⟩ := hF.made k hk hm hl'
              exact ⟨h1, h2, Nat.le_trans h3 hbw.size, (m k).keep h4 h3 (hbw.mono h3)⟩,
            fun k j hk hj hm hmj hl hlj => by
              have hki : k ≠ i := by intro e; subst e; rw [hmki, hmk] at hm; cases hm
              have hji : j ≠ i := by intro e; subst e; rw [hmki, hmk] at hmj; cases hmj
              have hl' : listed.getD k false = true := by have := hl; rw [hnext k] at this; simpa [hki] using this
              have hlj' : listed.getD j false = true := by have := hlj; rw [hnext j] at this; simpa [hji] using this
              exact hF.apart k j hk hj hm hmj hl' hlj'⟩
          rw [hput, hval] at this
          exact this
        unfold wpOp
        simp only [ho]
        rw [hw]
        rcases hY i o hin ho hmk with ⟨h1, h2⟩ | ⟨h1, h2⟩
        · rw [if_pos h1]
          refine .inl ?_
          unfold Oper.wp
          rw [he]
          have h3 := h2 ⟨w, hF.below⟩
          have hbl : blur (⟨w, hF.below⟩ : Blur W) = w := rfl
          rw [hbl] at h3
          generalize (execOp (canon ops a0 (fun k => decide (k < i) && !mkAt cs ops k) V na).eval o).run P w = r at h3
          cases r with
          | halt x w' => cases h3
          | ok nx w' =>
            cases nx <;> simp only [quietUp] at h3 <;> simp only [Oper.upon]
            case value u =>
              obtain ⟨e1, e2⟩ := h3
              rw [e1, e2]; exact hstep w (Below.refl _ _)
            case skip =>
              obtain ⟨e1, e2⟩ := h3
              rw [e1, ← e2]; exact hstep w (Below.refl _ _)
            case enter f args =>
              obtain ⟨e1, hc⟩ := h3
              rw [e1]
              exact hc.mono fun e w'' ⟨he', hb'⟩ => by subst he'; exact hstep w'' hb'
        · rw [if_neg (by rw [h1]; exact Bool.false_ne_true)]
          have := hstep w (Below.refl _ _)
          rw [h2] at this
          exact this
      | true =>
        have hag2 : Agree (o.looksAt ops) (canon ops a0 (fun k => listed.getD k false) (valOf cs ops V g) na) (canon ops a0 (fun k => !mkAt cs ops k) V na) := by
          refine agree_canon na (fun k hk ok hok => ?_)
          by_cases hd : ∃ d, ok.dst = some d ∧ d ∈ o.looksAt ops
          · obtain ⟨d, hd1, hd2⟩ := hd
            have e2 : dstOf ops k = some d := by simp [dstOf, hok, hd1]
            rw [← hlooks] at hd2
            refine .inr ?_
            rcases Nat.lt_trichotomy k i with h | h | h
            · obtain ⟨h1, h2⟩ := later_looks (hpair i hin k h) e2 hd2
              have h3 := hwait k h1
              refine ⟨by simp [h3, h2], fun _ => by simp [valOf, h2]⟩
            · subst h
              refine ⟨by simp [hunf, hmki, hmk], fun h => by rw [hunf] at h; cases h⟩
            · obtain ⟨_, h2, _⟩ := elder_looks (hpair k hk i h) e2 hd2
              rw [hmki, hmk] at h2
              cases h2
          · exact .inl (fun d hd1 hd2 => hd ⟨d, hd1, hd2⟩)
        obtain ⟨he, _⟩ := exec_agree (Region.noSelect_spec hsel i o · · ho) hag2
        have hgd : o.guard = none := by
          have h1 := hhead i hin
          simp only [headOK, ho, Bool.and_eq_true] at h1
          have := h1.2
          rw [hmk] at this
          simpa using this
        have hrun := hM i o hin ho hmk ⟨w, hF.below⟩
        have hbl : blur (⟨w, hF.below⟩ : Blur W) = w := rfl
        rw [hbl] at hrun
        have hstep : ∀ u w', Below w.heap.size w w' → (m i).R u w.heap.size w'.heap.size w' → wpAny P .any ops Q (n + (ops.size - na)) (listed.setIfInBounds i true) ((canon ops a0 (fun k => listed.getD k false) (valOf cs ops V g) na).put o.dst u) w' := by
          intro u w' hbw hR
          obtain ⟨g', hg'⟩ : ∃ g' : Nat → Value × Nat × Nat, g' = fun k => if k = i then (u, w.heap.size, w'.heap.size) else g k := ⟨_, rfl⟩
          have hgi : g' i = (u, w.heap.size, w'.heap.size) := by rw [hg']; simp
          have hgk : ∀ k, k ≠ i → g' k = g k := fun k hk => by rw [hg']; simp [hk]
          have hF' : Facts W cs ops na m (fun k => (listed.setIfInBounds i true).getD k false) g' w' := by
            refine ⟨hF.below.trans (hbw.mono hF.below.size), fun k hk hm hl => ?_, fun k j hk hj hm hmj hl hlj hkj => ?_⟩
            · by_cases hki : k = i
              · subst hki
                rw [hgi]
                exact ⟨hF.below.size, hbw.size, Nat.le_refl _, hR⟩
              · have hl' : listed.getD k false = true := by have := hl; rw [hnext k] at this; simpa [hki] using this
                obtain ⟨h1, h2, h3, h4⟩ := hF.made k hk hm hl'
                rw [hgk k hki]
                exact ⟨h1, h2, Nat.le_trans h3 hbw.size, (m k).keep h4 h3 (hbw.mono h3)⟩
            · by_cases hki : k = i
              · have hji : j ≠ i := fun e => hkj (hki.trans e.symm)
                have hl' : listed.getD j false = true := by have := hlj; rw [hnext j] at this; simpa [hji] using this
                obtain ⟨_, _, h3, _⟩ := hF.made j hj hmj hl'
                rw [hki, hgi, hgk j hji]
                exact .inr h3
              · have hlk' : listed.getD k false = true := by have := hl; rw [hnext k] at this; simpa [hki] using this
                by_cases hji : j = i
                · obtain ⟨_, _, h3, _⟩ := hF.made k hk hm hlk'
                  rw [hji, hgi, hgk k hki]
                  exact .inl h3
                · have hl' : listed.getD j false = true := by have := hlj; rw [hnext j] at this; simpa [hji] using this
                  rw [hgk k hki, hgk j hji]
                  exact hF.apart k j hk hj hm hmj hlk' hl' hkj
          have := ih (listed.setIfInBounds i true) g' w' hcome hinv' hF'
          rw [hput] at this
          have e1 : valOf cs ops V g' i = u := by simp [valOf, hmki, hmk, hgi]
          have e2 : canon ops a0 (fun k => listed.getD k false) (valOf cs ops V g') na = canon ops a0 (fun k => listed.getD k false) (valOf cs ops V g) na :=
            canon_congr na (fun _ _ => rfl) (fun k hk hl => by
              have hki : k ≠ i := by intro e; subst e; rw [hunf] at hl; cases hl
              simp [valOf, hgk k hki])
          rw [e1, e2] at this
          exact this
        unfold wpOp
        simp only [ho]
        rw [if_pos (by simp [Region.wanted, hgd])]
        refine .inl ?_
        unfold Oper.wp
        rw [he]
        generalize (execOp (canon ops a0 (fun k => !mkAt cs ops k) V na).eval o).run P w = r at hrun
        cases r with
        | halt x w' => cases hrun
        | ok nx w' =>
          cases nx <;> simp only [makesUp] at hrun <;> simp only [Oper.upon]
          case value u => exact hstep u w' hrun.1 hrun.2
          case enter f args =>
            obtain ⟨e1, hc⟩ := hrun
            rw [e1]
            exact hc.mono fun e w'' ⟨u, he', hb', hR'⟩ => by subst he'; exact hstep u w'' hb' hR'
end

/-! ### The theorem, as it is used -/
section
variable {P : Program} {cs : List Tmp} {ops : Array Oper} {W : World} {a0 : Act}

def mkSpec (P : Program) (cs : List Tmp) (W : World) (aq : Act) : List Oper → List Mkr → Prop
  | [], ms => ms = []
  | o :: r, ms => if isMk cs o then (match ms with
      | m :: ms' => (∀ z : Blur W, makesUp P z m ((execOp aq.eval o).run P (blur z))) ∧ mkSpec P cs W aq r ms'
      | [] => False) else mkSpec P cs W aq r ms
def mkGo (cs : List Tmp) (W : World) (K : Act → World → Prop) : List Oper → List Mkr → Act → (World → Prop) → List (Nat × Nat) → Prop
  | [], _, acc, F, _ => ∀ w', Below W.heap.size W w' → F w' → K acc w'
  | o :: r, ms, acc, F, used => if isMk cs o then (match ms with
      | m :: ms' => ∀ u lo hi, W.heap.size ≤ lo → lo ≤ hi → (∀ p ∈ used, p.2 ≤ lo ∨ hi ≤ p.1) → mkGo cs W K r ms' (acc.put o.dst u) (fun w => F w ∧ hi ≤ w.heap.size ∧ m.R u lo hi w) ((lo, hi) :: used)
      | [] => True) else mkGo cs W K r ms acc F used

/-- The quiet walk, as a function of the index. -/
theorem wpQ_index {K : Act → Prop} {na : Nat} : ∀ (l : List Oper) (k : Nat) (V0 : Nat → Value), (∀ j, j < l.length → l[j]? = ops[k + j]?) → k + l.length = na →
    (∀ i o, i < k → ops[i]? = some o → isMk cs o = false → YB P ops W o (canon ops a0 (fun j => decide (j < i) && !mkAt cs ops j) V0 na) (V0 i)) →
    wpQ P cs ops W K l (canon ops a0 (fun j => decide (j < k) && !mkAt cs ops j) V0 na) →
    ∃ V : Nat → Value, (∀ i o, i < na → ops[i]? = some o → isMk cs o = false → YB P ops W o (canon ops a0 (fun j => decide (j < i) && !mkAt cs ops j) V na) (V i)) ∧ K (canon ops a0 (fun j => !mkAt cs ops j) V na)
  | [], k, V0, _, hk, hY, h => by
    have hk' : k = na := by simpa using hk
    subst hk'
    refine ⟨V0, hY, ?_⟩
    have e : canon ops a0 (fun j => decide (j < k) && !mkAt cs ops j) V0 k = canon ops a0 (fun j => !mkAt cs ops j) V0 k := canon_congr k (fun j hj => by simp [hj]) (fun _ _ _ => rfl)
    rw [← e]; exact h
  | o :: l, k, V0, hl, hk, hY, h => by
    have h0 : ops[k]? = some o := by simpa using (hl 0 (by simp)).symm
    have hl' : ∀ j, j < l.length → l[j]? = ops[k + 1 + j]? := fun j hj => by
      have := hl (j + 1) (by simp; omega)
      simpa [Nat.add_assoc, Nat.add_comm 1 j] using this
    have hk' : k + 1 + l.length = na := by simp only [List.length_cons] at hk; omega
    have hmk : mkAt cs ops k = isMk cs o := by simp [mkAt, h0]
    cases hm : isMk cs o with
    | true =>
      unfold wpQ at h
      rw [if_pos hm] at h
      refine wpQ_index l (k + 1) V0 hl' hk' (fun i o' hi ho' hmo => ?_) ?_
      · rcases Nat.lt_or_ge i k with hik | hik
        · exact hY i o' hik ho' hmo
        · have : i = k := by omega
          subst this
          rw [h0] at ho'
          obtain rfl := Option.some.inj ho'
          rw [hm] at hmo
          cases hmo
      · have e : canon ops a0 (fun j => decide (j < k + 1) && !mkAt cs ops j) V0 na = canon ops a0 (fun j => decide (j < k) && !mkAt cs ops j) V0 na := canon_congr na (fun j _ => by
          by_cases hjk : j = k
          · subst hjk; simp [hmk, hm]
          · have : (j < k + 1) = (j < k) := by simp; omega
            simp [this]) (fun _ _ _ => rfl)
        rw [e]; exact h
    | false =>
      unfold wpQ at h
      rw [if_neg (by rw [hm]; exact Bool.false_ne_true)] at h
      obtain ⟨v, hy, hK⟩ : ∃ v, YB P ops W o (canon ops a0 (fun j => decide (j < k) && !mkAt cs ops j) V0 na) v ∧ wpQ P cs ops W K l ((canon ops a0 (fun j => decide (j < k) && !mkAt cs ops j) V0 na).put o.dst v) := by
        by_cases hw : Region.wanted o (yielded ops (canon ops a0 (fun j => decide (j < k) && !mkAt cs ops j) V0 na).tmps) = true
        · rw [if_pos hw] at h
          obtain ⟨v, h1, h2⟩ := h
          exact ⟨v, .inl ⟨hw, h1⟩, h2⟩
        · rw [if_neg hw] at h
          exact ⟨undef, .inr ⟨by simpa using hw, rfl⟩, h⟩
      obtain ⟨V1, hV1⟩ : ∃ V1 : Nat → Value, V1 = fun j => if j = k then v else V0 j := ⟨_, rfl⟩
      have hV1k : V1 k = v := by rw [hV1]; simp
      have hV1n : ∀ j, j ≠ k → V1 j = V0 j := fun j hj => by rw [hV1]; simp [hj]
      have same : ∀ i, i ≤ k → canon ops a0 (fun j => decide (j < i) && !mkAt cs ops j) V1 na = canon ops a0 (fun j => decide (j < i) && !mkAt cs ops j) V0 na := fun i hi =>
        canon_congr na (fun _ _ => rfl) (fun j _ hj => hV1n j (by intro e; subst e; simp at hj; omega))
      refine wpQ_index l (k + 1) V1 hl' hk' (fun i o' hi ho' hmo => ?_) ?_
      · rcases Nat.lt_or_ge i k with hik | hik
        · rw [same i (by omega), hV1n i (by omega)]
          exact hY i o' hik ho' hmo
        · have : i = k := by omega
          subst this
          rw [h0] at ho'
          obtain rfl := Option.some.inj ho'
          rw [same i (Nat.le_refl _), hV1k]
          exact hy
      · -- the put comes last: nothing behind k has been put yet
        have e : ∀ m, canon ops a0 (fun j => decide (j < k + 1) && !mkAt cs ops j) V1 m = if k < m then (canon ops a0 (fun j => decide (j < k) && !mkAt cs ops j) V0 m).put o.dst v else canon ops a0 (fun j => decide (j < k) && !mkAt cs ops j) V0 m := by
          intro m
          induction m with
          | zero => simp [canon]
          | succ m ihm =>
            unfold canon
            rw [ihm]
            by_cases hmk' : m = k
            · subst hmk'
              simp only [h0, Nat.lt_irrefl, if_false, decide_false, Bool.false_and, Bool.false_eq_true, Nat.lt_succ_self, decide_true, Bool.true_and, hmk, hm, Bool.not_false, if_true, hV1k]
            · by_cases hlt : k < m
              · have h1 : ¬ m < k + 1 := by omega
                have h2 : ¬ m < k := by omega
                have h3 : k < m + 1 := by omega
                simp only [hlt, if_true, h1, h2, h3, decide_false, Bool.false_and, Bool.false_eq_true, if_false]
                cases ops[m]? <;> rfl
              · have h1 : m < k + 1 := by omega
                have h2 : m < k := by omega
                have h3 : ¬ k < m + 1 := by omega
                simp only [hlt, if_false, h1, h2, h3, decide_true, Bool.true_and]
                rw [hV1n m hmk']
        rw [e na, if_pos (by omega)]
        exact hK
end
end
section
variable {P : Program} {cs : List Tmp} {ops : Array Oper} {W : World} {a0 : Act} {na : Nat}
instance : Inhabited Mkr := ⟨⟨fun _ _ _ _ => True, fun _ _ _ => trivial⟩⟩
/-- The maker of operation j of a list. -/
def msAt (cs : List Tmp) : List Oper → List Mkr → Nat → Mkr
  | [], _, _ => default
  | o :: r, ms, j => if isMk cs o then (match ms with
      | m :: ms' => (match j with | 0 => m | j + 1 => msAt cs r ms' j)
      | [] => default) else (match j with | 0 => default | j + 1 => msAt cs r ms j)
theorem mkSpec_at {aq : Act} : ∀ (l : List Oper) (ms : List Mkr), mkSpec P cs W aq l ms → ∀ (j : Nat) (o : Oper), l[j]? = some o → isMk cs o = true →
    ∀ z : Blur W, makesUp P z (msAt cs l ms j) ((execOp aq.eval o).run P (blur z))
  | [], _, _, j, o, hj, _ => by simp at hj
  | o' :: r, ms, h, j, o, hj, hm => by
    unfold mkSpec at h
    unfold msAt
    cases hm' : isMk cs o' with
    | true =>
      rw [if_pos hm'] at h
      rw [if_pos rfl]
      cases ms with
      | nil => exact absurd h (by simp)
      | cons m ms' =>
        cases j with
        | zero =>
          have : o' = o := by simpa using hj
          subst this
          exact h.1
        | succ j => exact mkSpec_at r ms' h.2 j o (by simpa using hj) hm
    | false =>
      rw [if_neg (by rw [hm']; exact Bool.false_ne_true)] at h
      rw [if_neg Bool.false_ne_true]
      cases j with
      | zero =>
        have : o' = o := by simpa using hj
        subst this
        rw [hm'] at hm; cases hm
      | succ j => exact mkSpec_at r ms h j o (by simpa using hj) hm
theorem mkGo_index {aq : Act} {K : Act → World → Prop} {V : Nat → Value} {m : Nat → Mkr} {g : Nat → Value × Nat × Nat} {w' : World}
    (hpair : ∀ x, x < na → ∀ y, y < x → pairOK cs ops y x = true) (hF : Facts W cs ops na m (fun _ => true) g w') :
    ∀ (l : List Oper) (k : Nat) (ms : List Mkr) (F : World → Prop) (used : List (Nat × Nat)), (∀ j, j < l.length → l[j]? = ops[k + j]?) → k + l.length = na →
      mkSpec P cs W aq l ms → (∀ j o, l[j]? = some o → isMk cs o = true → msAt cs l ms j = m (k + j)) → (∀ x ∈ used, ∃ j, j < k ∧ mkAt cs ops j = true ∧ x = (g j).2) → F w' →
      mkGo cs W K l ms (canon ops a0 (fun j => !mkAt cs ops j || decide (j < k)) (valOf cs ops V g) na) F used → K (canon ops a0 (fun _ => true) (valOf cs ops V g) na) w'
  | [], k, ms, F, used, _, hk, _, _, _, hFw, h => by
    have hk' : k = na := by simpa using hk
    subst hk'
    have e : canon ops a0 (fun j => !mkAt cs ops j || decide (j < k)) (valOf cs ops V g) k = canon ops a0 (fun _ => true) (valOf cs ops V g) k := canon_congr k (fun j hj => by simp [hj]) (fun _ _ _ => rfl)
    rw [← e]
    exact h w' hF.below hFw
  | o :: l, k, ms, F, used, hl, hk, hsp, hat, hus, hFw, h => by
    have h0 : ops[k]? = some o := by simpa using (hl 0 (by simp)).symm
    have hl' : ∀ j, j < l.length → l[j]? = ops[k + 1 + j]? := fun j hj => by
      have := hl (j + 1) (by simp; omega)
      simpa [Nat.add_assoc, Nat.add_comm 1 j] using this
    have hk' : k + 1 + l.length = na := by simp only [List.length_cons] at hk; omega
    have hkn : k < na := by omega
    have hmk : mkAt cs ops k = isMk cs o := by simp [mkAt, h0]
    unfold mkSpec at hsp
    unfold mkGo at h
    cases hm : isMk cs o with
    | false =>
      rw [if_neg (by rw [hm]; exact Bool.false_ne_true)] at hsp h
      have e : canon ops a0 (fun j => !mkAt cs ops j || decide (j < k)) (valOf cs ops V g) na = canon ops a0 (fun j => !mkAt cs ops j || decide (j < k + 1)) (valOf cs ops V g) na := canon_congr na (fun j _ => by
        by_cases hjk : j = k
        · subst hjk; simp [hmk, hm]
        · have : (j < k + 1) = (j < k) := by simp; omega
          simp [this]) (fun _ _ _ => rfl)
      rw [e] at h
      refine mkGo_index hpair hF l (k + 1) ms F used hl' hk' hsp (fun j o' hj hm' => ?_) (fun x hx => ?_) hFw h
      · have := hat (j + 1) o' (by simpa using hj) hm'
        unfold msAt at this
        rw [if_neg (by rw [hm]; exact Bool.false_ne_true)] at this
        simpa [Nat.add_assoc, Nat.add_comm 1 j] using this
      · obtain ⟨j, hj, h1, h2⟩ := hus x hx
        exact ⟨j, by omega, h1, h2⟩
    | true =>
      rw [if_pos hm] at hsp h
      cases ms with
      | nil => exact absurd hsp (by simp)
      | cons m0 ms' =>
        have hm0 : m0 = m k := by
          have := hat 0 o (by simp) hm
          unfold msAt at this
          rw [if_pos hm] at this
          simpa using this
        have hmk1 : mkAt cs ops k = true := by rw [hmk, hm]
        have hfact := hF.made k hkn hmk1 rfl
        have hnew : ∀ p ∈ used, p.2 ≤ (g k).2.1 ∨ (g k).2.2 ≤ p.1 := by
          intro p hx
          obtain ⟨j, hj, h1, h2⟩ := hus _ hx
          have := hF.apart k j hkn (by omega) hmk1 h1 rfl rfl (by omega)
          rw [h2]
          exact this.symm
        have h1 := h (g k).1 (g k).2.1 (g k).2.2 hfact.1 hfact.2.1 hnew
        have e : canon ops a0 (fun j => !mkAt cs ops j || decide (j < k + 1)) (valOf cs ops V g) na = (canon ops a0 (fun j => !mkAt cs ops j || decide (j < k)) (valOf cs ops V g) na).put o.dst (valOf cs ops V g k) := by
          refine canon_set h0 (by simp [hmk1]) (fun j => ?_) na hkn (fun j hj hji oj hoj d hd => ?_)
          · by_cases hjk : j = k
            · subst hjk; simp
            · have : (j < k + 1) = (j < k) := by simp; omega
              simp [this, hjk]
          · have e1 : dstOf ops k = some d := by simp [dstOf, h0, hd]
            have e2 : dstOf ops j = oj.dst := by simp [dstOf, hoj]
            rcases Nat.lt_or_gt_of_ne hji with h | h
            · intro hc
              exact dst_ne (hpair k hkn j h) (e2.trans hc) e1
            · rw [← e2]
              exact dst_ne (hpair j hj k h) e1
        have e3 : valOf cs ops V g k = (g k).1 := by simp [valOf, hmk1]
        rw [e3] at e
        rw [← e] at h1
        refine mkGo_index hpair hF l (k + 1) ms' _ _ hl' hk' hsp.2 (fun j o' hj hm' => ?_) (fun x hx => ?_) ⟨hFw, hfact.2.2.1, by rw [hm0]; exact hfact.2.2.2⟩ h1
        · have := hat (j + 1) o' (by simpa using hj) hm'
          unfold msAt at this
          rw [if_pos hm] at this
          simpa [Nat.add_assoc, Nat.add_comm 1 j] using this
        · rcases List.mem_cons.1 hx with rfl | hx
          · exact ⟨k, by omega, hmk1, rfl⟩
          · obtain ⟨j, hj, h1, h2⟩ := hus x hx
            exact ⟨j, by omega, h1, h2⟩

/-- **ONE WALK FOR EVERY ORDER.** na: how many operations stand ahead of the tail. ms: what each maker of a block makes, in the order of the text. -/
theorem wp_region_qat {id : Nat} {Q : Exit → Act → World → Prop} {a : Act} {l : List Oper} (cs : List Tmp) (na : Nat) (ms : List Mkr) (hm : P.follows .mixedOrders = true) (hB : qatB cs l.toArray na = true)
    (h : (∀ (z : Blur W) (b o : Nat), b < W.heap.size → (blur z).cell? ⟨b, o, none⟩ = W.cell? ⟨b, o, none⟩) →
      wpQ P cs l.toArray W (fun aq => mkSpec P cs W aq (l.take na) ms ∧ mkGo cs W (fun acc w' => wpList P l.toArray Q (l.drop na) acc w') (l.take na) ms aq (fun _ => True) []) (l.take na) a) :
    (Code.region id l.toArray true).wp P Q a W := by
  refine wp_region_any hm ?_
  have hB0 := hB
  simp only [qatB, Bool.and_eq_true, decide_eq_true_eq, List.all_eq_true, List.mem_range] at hB
  obtain ⟨⟨⟨⟨⟨hsel, hna⟩, hhead⟩, hpair⟩, _⟩, hseq⟩ := hB
  have hna' : na ≤ l.length := by simpa using hna
  have hlt : (l.take na).length = na := by simp; omega
  have h' := h (fun z b o hb => z.below.cell (p := ⟨b, o, none⟩) hb)
  have e0 : canon l.toArray a (fun j => decide (j < 0) && !mkAt cs l.toArray j) (fun _ => undef) na = a := by
    have : ∀ m, canon l.toArray a (fun j => decide (j < 0) && !mkAt cs l.toArray j) (fun _ => undef) m = a := by
      intro m
      induction m with
      | zero => rfl
      | succ m ih =>
        unfold canon
        cases (l.toArray)[m]? with
        | none => exact ih
        | some o => simpa using ih
    exact this na
  have hidx : ∀ j, j < (l.take na).length → (l.take na)[j]? = l.toArray[0 + j]? := fun j hj => by
    rw [hlt] at hj
    simp [hj]
  obtain ⟨V, hY, hsp, hgo⟩ := wpQ_index (P := P) (cs := cs) (ops := l.toArray) (W := W) (a0 := a) (na := na) (l.take na) 0 (fun _ => undef) hidx (by rw [hlt]; omega) (fun i o hi => absurd hi (by omega)) (by rw [e0]; exact h')
  have key := any_of_inv (P := P) (cs := cs) (ops := l.toArray) (W := W) (a0 := a) (na := na) (Q := Q) hB0 V (fun k => msAt cs (l.take na) ms k) hY
    (fun i o hi ho hmk z => mkSpec_at (l.take na) ms hsp i o (by have := hidx i (by rw [hlt]; exact hi); rw [Nat.zero_add] at this; rw [this]; exact ho) hmk z)
    (fun g w' hF => ?_) na (Array.replicate l.toArray.size false) (fun _ => (undef, 0, 0)) { W with drawn := W.drawn + 1 } ?_ ?_ ?_
  · have hsz : na + (l.toArray.size - na) = l.toArray.size := by omega
    rw [hsz] at key
    have e1 : canon l.toArray a (fun k => (Array.replicate l.toArray.size false).getD k false) (valOf cs l.toArray V fun _ => (undef, 0, 0)) na = a := by
      have : ∀ m, canon l.toArray a (fun k => (Array.replicate l.toArray.size false).getD k false) (valOf cs l.toArray V fun _ => (undef, 0, 0)) m = a := by
        intro m
        induction m with
        | zero => rfl
        | succ m ih =>
          unfold canon
          rw [getD_replicate_false]
          cases (l.toArray)[m]? with
          | none => exact ih
          | some o => simpa using ih
      exact this na
    rw [e1] at key
    exact key
  · -- the tail
    have hfin := mkGo_index (P := P) (cs := cs) (aq := canon l.toArray a (fun j => !mkAt cs l.toArray j) V na) (a0 := a) (V := V) (K := fun acc w' => wpList P l.toArray Q (l.drop na) acc w') hpair hF (l.take na) 0 ms (fun _ => True) [] hidx (by rw [hlt]; omega) hsp
      (fun j o hj hmk => by rw [Nat.zero_add]) (fun x hx => by cases hx) trivial (by
        have e2 : canon l.toArray a (fun j => !mkAt cs l.toArray j || decide (j < 0)) (valOf cs l.toArray V g) na = canon l.toArray a (fun j => !mkAt cs l.toArray j) V na :=
          canon_congr na (fun j _ => by simp) (fun j _ hj => by
            have : mkAt cs l.toArray j = false := by simpa using hj
            simp [valOf, this])
        rw [e2]; exact hgo)
    have hdl : (l.drop na).length = l.toArray.size - na := by simp
    have := wpAny_of_seq (P := P) (md := .any) (Q' := Q) (l.drop na) na ((List.replicate na true ++ List.replicate (l.toArray.size - na) false).toArray) _ w' (fun j => by simp [List.getElem?_drop]) (by rw [hdl]; exact hseq) hfin
    rw [hdl] at this
    exact this
  · have : ∀ n, n ≤ l.toArray.size → toCome (Array.replicate l.toArray.size false) n = n := by
      intro n
      induction n with
      | zero => intro _; rfl
      | succ n ih =>
        intro hn
        unfold toCome
        rw [ih (by omega)]
        have : (Array.replicate l.toArray.size false).getD n true = false := by
          rw [Array.getD_eq_getD_getElem?]
          simp
          have : n < l.length := by have h := hn; simp at h; omega
          simp [this]
        rw [this]; rfl
    exact this na hna
  · exact ⟨by simp, fun j oj _ hl => (by rw [getD_replicate_false] at hl; cases hl), fun t _ ht => getD_in (by simpa using ht) (getD_replicate_false _ _)⟩
  · exact ⟨(Below.refl _ _).drew, fun k _ _ hk => (by rw [getD_replicate_false] at hk; cases hk), fun k j _ _ _ _ hk => (by rw [getD_replicate_false] at hk; cases hk)⟩
end
theorem blk_cell {w : World} {g t : Nat} {cs : Array Value} (h : w.heap[g]? = some (.cells cs t)) (i : Nat) : w.cell? ⟨g, i, none⟩ = cs[i]? := cell_of_row w g i cs t (0, 0) h
theorem blk_frozen {w : World} {g t : Nat} {cs : Array Value} (h : w.heap[g]? = some (.cells cs t)) (i : Nat) : w.frozen? ⟨g, i, none⟩ = false := by
  simp [World.frozen?, h]
attribute [go_sem] quietK quietB quietUp makesUp
end Go.Proofs.Ytkipaefhnmfebaa
