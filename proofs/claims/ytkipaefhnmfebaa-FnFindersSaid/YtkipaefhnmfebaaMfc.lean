/-
  What the law of the finders draws. Printed by gen/fdw.py.
-/
import Derived.Test.YtkipaefhnmfebaaMfb
import Derived.Test.YtkipaefhnmfebaaSlice
import Derived.Test.YtkipaefhnmfebaaMfa
import Derived.Test.YtkipaefhnmfebaaFrame
import Derived.Test.YtkipaefhnmfebaaC14B
import Derived.Test.YtkipaefhnmfebaaRas
import Derived.Test.YtkipaefhnmfebaaDrF
import Derived.Test.YtkipaefhnmfebaaKb
import Derived.Test.YtkipaefhnmfebaaHit
import Derived.Test.YtkipaefhnmfebaaC21V
import Derived.Deep.RegionHeld3
import Derived.Deep.DeepCutAuto
namespace Go.Proofs.Ytkipaefhnmfebaa
set_option linter.unusedSimpArgs false
open Go.RowKit

section
variable {α : Type} {f : α → List Value} {sz : Nat}
theorem flat_length (hf : ∀ a, (f a).length = sz) : ∀ L : List α, (L.flatMap f).length = L.length * sz
  | [] => by simp
  | a :: L => by rw [List.flatMap_cons, List.length_append, hf, flat_length hf L, List.length_cons, Nat.succ_mul]; omega
theorem flat_get (hf : ∀ a, (f a).length = sz) : ∀ (L : List α) (i j : Nat) (hi : i < L.length), j < sz → (L.flatMap f)[i * sz + j]? = (f L[i])[j]?
  | [], i, j, hi, _ => absurd hi (by simp)
  | a :: L, 0, j, hi, hj => by
    rw [List.flatMap_cons, List.getElem?_append_left (by rw [hf]; omega)]; simp
  | a :: L, i + 1, j, hi, hj => by
    have h := flat_get hf L i j (by simpa using hi) hj
    rw [List.flatMap_cons, List.getElem?_append_right (by rw [hf, Nat.succ_mul]; omega), hf, Nat.succ_mul, show i * sz + sz + j - sz = i * sz + j by omega, h]; rfl
theorem flat_snoc (L : List α) (a : α) : (L ++ [a]).flatMap f = L.flatMap f ++ f a := by simp
/-- The slice value v owns the list L of structs of type e. -/
def OwnT (e sz : Nat) (f : α → List Value) (w : World) (B : Nat) (v : Value) (L : List α) : Prop := w.ownsRow B e sz v L.length (L.flatMap f)
variable {e : Nat} {w w' : World} {B B' : Nat} {v : Value} {L L' : List α}
theorem OwnT.keep (h : OwnT e sz f w B v L) (hb : Below w.heap.size w w') : OwnT e sz f w' B v L := by
  refine ⟨h.1, ?_⟩
  rcases h.2 with h' | ⟨g, cap, cur, rfl, hB, hg, hr⟩
  · exact .inl h'
  · exact .inr ⟨g, cap, cur, rfl, hB, (hb.block g (lt_of_block hg)).trans hg, hr⟩
theorem OwnT.blk (h : OwnT e sz f w B v L) (hb : ∀ g, v.ownBlock = some g → w'.heap[g]? = w.heap[g]?) : OwnT e sz f w' B v L := by
  refine ⟨h.1, ?_⟩
  rcases h.2 with h' | ⟨g, cap, cur, rfl, hB, hg, hr⟩
  · exact .inl h'
  · exact .inr ⟨g, cap, cur, rfl, hB, (hb g rfl).trans hg, hr⟩
theorem OwnT.more (h : OwnT e sz f w B v L) (hB : B' ≤ B) : OwnT e sz f w B' v L := by
  refine ⟨h.1, ?_⟩
  rcases h.2 with h' | ⟨g, cap, cur, rfl, hB', hg, hr⟩
  · exact .inl h'
  · exact .inr ⟨g, cap, cur, rfl, by omega, hg, hr⟩
theorem OwnT.setLt (h : OwnT e sz f w B v L) {p : Addr} (hp : p.block < B) (u : Value) : OwnT e sz f (w.setCell p u) B v L := by
  refine ⟨h.1, ?_⟩
  rcases h.2 with h' | ⟨g, cap, cur, rfl, hB, hg, hr⟩
  · exact .inl h'
  · exact .inr ⟨g, cap, cur, rfl, hB, (Below.heap_setCell _ _ _ _ (by omega)).trans hg, hr⟩
theorem OwnT.to (h : OwnT e sz f w B v L) (he : L = L') : OwnT e sz f w B v L' := he ▸ h
theorem OwnT.alloc (h : OwnT e sz f w B v L) (o : Obj) : (w.alloc o).ownsRow B e sz v L.length (L.flatMap f) := World.ownsRow.alloc h o
theorem OwnT.snoc {a : α} (h : w.ownsRow B e sz v (L.length + 1) (L.flatMap f ++ f a)) : OwnT e sz f w B v (L ++ [a]) := by
  unfold OwnT; rw [flat_snoc, List.length_append, List.length_singleton]; exact h
theorem OwnT.lt (h : OwnT e sz f w B v L) : ∀ k, v.ownBlock = some k → B ≤ k ∧ k < w.heap.size := fun k hk => World.ownsRow.lt h k hk
theorem OwnT.empty (hB : B ≤ w.heap.size) : OwnT e sz f (w.alloc (.cells #[] e)) B (.slice (some ⟨w.heap.size, 0, none⟩) 0 0) ([] : List α) := by
  have := World.ownsRow_made (e := e) (size := sz) (base := B) w #[] 0 hB (by unfold maxLen; omega) (by simp)
  simpa [OwnT] using this
theorem OwnT.shape (h : OwnT e sz f w B v L) : ∃ A c, v = .slice A L.length c := by
  rcases h.2 with ⟨rfl, h0⟩ | ⟨g, cap, cur, rfl, hB, hg, hr⟩
  · exact ⟨none, 0, by rw [h0]⟩
  · exact ⟨_, cap, rfl⟩
theorem OwnT.look (hf : ∀ a, (f a).length = sz) (h : OwnT e sz f w B v L) (h0 : 0 < L.length) : ∃ g c, v = .slice (some ⟨g, 0, none⟩) L.length c ∧ B ≤ g ∧ g < w.heap.size ∧
    (∀ k j (hk : k < L.length), j < sz → w.cell? ⟨g, k * sz + j, none⟩ = (f L[k])[j]?) ∧ (∀ k, w.frozen? ⟨g, k, none⟩ = false) := by
  rcases h.2 with ⟨rfl, h0'⟩ | ⟨g, cap, cur, rfl, hB, hg, hr⟩
  · omega
  · have h2 : w.ownsRow B e sz (.slice (some ⟨g, 0, none⟩) L.length cap) L.length (L.flatMap f) := h
    refine ⟨g, cap, rfl, hB, lt_of_block hg, fun k j hk hj => ?_, fun k => h2.frozenAt k⟩
    have hkk : k * sz + j < L.length * sz := by
      have := Nat.mul_le_mul_right sz (show k + 1 ≤ L.length from hk)
      rw [Nat.succ_mul] at this; omega
    rw [h2.cellAt _ hkk, flat_get hf L k j hk hj]
end
theorem wr64s {n : Int} (h : -9223372036854775808 ≤ n ∧ n ≤ 9223372036854775807) : IntKind.i64.wrap n = n := by
  have h1 : IntKind.i64.min = -9223372036854775808 := rfl
  have h2 : IntKind.i64.max = 9223372036854775807 := rfl
  unfold IntKind.wrap
  simp [IntKind.bits, IntKind.signed]
  omega
theorem runC_len (r : RnT) : (runC r).length = 3 := rfl
theorem OwnR.t {w : World} {B : Nat} {v : Value} {L : List RnT} (h : OwnR w B v L) : OwnT 115 3 runC w B v L := h
theorem gR_eq {L : List RnT} {k : Nat} (h : k < L.length) : gR L k = L[k] := by unfold gR; rw [List.getD_eq_getElem?_getD, List.getElem?_eq_getElem h]; rfl
theorem OwnR.look {w : World} {B : Nat} {v : Value} {L : List RnT} (h : OwnR w B v L) (h0 : 0 < L.length) : ∃ g c, v = .slice (some ⟨g, 0, none⟩) L.length c ∧ B ≤ g ∧ g < w.heap.size ∧
    ∀ k, k < L.length → w.cell? ⟨g, k * 3, none⟩ = some (.int .i64 ((gR L k).s : Nat)) ∧ w.cell? ⟨g, k * 3 + 1, none⟩ = some (.int .i64 ((gR L k).l : Nat)) ∧ w.cell? ⟨g, k * 3 + 2, none⟩ = some (.bool (gR L k).d) := by
  obtain ⟨g, c, e, hB, hg, hc, -⟩ := OwnT.look runC_len h.t h0
  refine ⟨g, c, e, hB, hg, fun k hk => ?_⟩
  rw [gR_eq hk]
  exact ⟨hc k 0 hk (by omega), hc k 1 hk (by omega), hc k 2 hk (by omega)⟩
def secC (t : SecT) : List Value := [.int .i64 (t.s : Nat), .int .i64 (t.l : Nat), .int .i64 (t.m.s : Nat), .int .i64 (t.m.l : Nat), .bool t.m.d]
theorem secC_len (t : SecT) : (secC t).length = 5 := rfl
theorem secC_ok (t : SecT) : ∀ u ∈ secC t, u.oneCell' = true := by
  intro u hu; simp [secC] at hu; rcases hu with rfl | rfl | rfl | rfl | rfl <;> rfl
def gS (L : List SecT) (i : Nat) : SecT := L.getD i ⟨0, 0, ⟨0, 0, false⟩⟩
theorem gS_eq {L : List SecT} {k : Nat} (h : k < L.length) : gS L k = L[k] := by unfold gS; rw [List.getD_eq_getElem?_getD, List.getElem?_eq_getElem h]; rfl
def OwnS (w : World) (B : Nat) (v : Value) (L : List SecT) : Prop := OwnT 117 5 secC w B v L
theorem OwnS.look {w : World} {B : Nat} {v : Value} {L : List SecT} (h : OwnS w B v L) (h0 : 0 < L.length) : ∃ g c, v = .slice (some ⟨g, 0, none⟩) L.length c ∧ B ≤ g ∧ g < w.heap.size ∧
    ∀ k, k < L.length → w.cell? ⟨g, k * 5, none⟩ = some (.int .i64 ((gS L k).s : Nat)) ∧ w.cell? ⟨g, k * 5 + 1, none⟩ = some (.int .i64 ((gS L k).l : Nat)) ∧ w.cell? ⟨g, k * 5 + 2, none⟩ = some (.int .i64 ((gS L k).m.s : Nat)) ∧ w.cell? ⟨g, k * 5 + 3, none⟩ = some (.int .i64 ((gS L k).m.l : Nat)) ∧ w.cell? ⟨g, k * 5 + 4, none⟩ = some (.bool (gS L k).m.d) := by
  obtain ⟨g, c, e, hB, hg, hc, -⟩ := OwnT.look secC_len h h0
  refine ⟨g, c, e, hB, hg, fun k hk => ?_⟩
  rw [gS_eq hk]
  exact ⟨hc k 0 hk (by omega), hc k 1 hk (by omega), hc k 2 hk (by omega), hc k 3 hk (by omega), hc k 4 hk (by omega)⟩
def fdC (t : FdT) : List Value := [.int .i64 (t.r : Nat), .int .i64 (t.c : Nat), .int .i64 (t.h : Nat), .int .i64 (t.w : Nat)]
theorem fdC_len (t : FdT) : (fdC t).length = 4 := rfl
theorem fdC_ok (t : FdT) : ∀ u ∈ fdC t, u.oneCell' = true := by
  intro u hu; simp [fdC] at hu; rcases hu with rfl | rfl | rfl | rfl <;> rfl
def OwnF (w : World) (B : Nat) (v : Value) (L : List FdT) : Prop := OwnT 47 4 fdC w B v L
theorem OwnF.look {w : World} {B : Nat} {v : Value} {L : List FdT} (h : OwnF w B v L) (h0 : 0 < L.length) : ∃ g c, v = .slice (some ⟨g, 0, none⟩) L.length c ∧ B ≤ g ∧ g < w.heap.size ∧
    ∀ k, k < L.length → w.cell? ⟨g, k * 4, none⟩ = some (.int .i64 ((gF L k).r : Nat)) ∧ w.cell? ⟨g, k * 4 + 1, none⟩ = some (.int .i64 ((gF L k).c : Nat)) ∧ w.cell? ⟨g, k * 4 + 2, none⟩ = some (.int .i64 ((gF L k).h : Nat)) ∧ w.cell? ⟨g, k * 4 + 3, none⟩ = some (.int .i64 ((gF L k).w : Nat)) := by
  obtain ⟨g, c, e, hB, hg, hc, -⟩ := OwnT.look fdC_len h h0
  refine ⟨g, c, e, hB, hg, fun k hk => ?_⟩
  rw [gF_eq hk]
  exact ⟨hc k 0 hk (by omega), hc k 1 hk (by omega), hc k 2 hk (by omega), hc k 3 hk (by omega)⟩
section
variable {w w' : World} {B B' : Nat} {v : Value} {L L' : List SecT} {M M' : List FdT}
theorem OwnS.more (h : OwnS w B v L) (hB : B' ≤ B) : OwnS w B' v L := OwnT.more h hB
theorem OwnS.keep (h : OwnS w B v L) (hb : Below w.heap.size w w') : OwnS w' B v L := OwnT.keep h hb
theorem OwnF.more (h : OwnF w B v M) (hB : B' ≤ B) : OwnF w B' v M := OwnT.more h hB
theorem OwnF.keep (h : OwnF w B v M) (hb : Below w.heap.size w w') : OwnF w' B v M := OwnT.keep h hb
theorem OwnF.to (h : OwnF w B v M) (e : M = M') : OwnF w B v M' := e ▸ h
theorem OwnF.alloc (h : OwnF w B v M) (o : Obj) : (w.alloc o).ownsRow B 47 4 v M.length (M.flatMap fdC) := OwnT.alloc h o
theorem OwnF.snoc {x : FdT} (h : w.ownsRow B 47 4 v (M.length + 1) (M.flatMap fdC ++ fdC x)) : OwnF w B v (M ++ [x]) := OwnT.snoc h
theorem OwnF.empty (hB : B ≤ w.heap.size) : OwnF (w.alloc (.cells #[] 47)) B (.slice (some ⟨w.heap.size, 0, none⟩) 0 0) [] := OwnT.empty hB
theorem OwnF.shape (h : OwnF w B v M) : ∃ A c, v = .slice A M.length c := OwnT.shape h
theorem OwnF.lt (h : OwnF w B v M) : ∀ k, v.ownBlock = some k → B ≤ k ∧ k < w.heap.size := OwnT.lt h
end
theorem info_secs : (Try.prog.info? 117).map (fun i => (i.zero, i.size, i.bytes)) = some (some (.agg #[.int .i64 0, .int .i64 0, .int .i64 0, .int .i64 0, .bool false]), 5, 40) := by kernel_rfl
theorem info_fds : (Try.prog.info? 47).map (fun i => (i.zero, i.size, i.bytes)) = some (some (.agg #[.int .i64 0, .int .i64 0, .int .i64 0, .int .i64 0]), 4, 32) := by kernel_rfl
end Go.Proofs.Ytkipaefhnmfebaa
namespace Go.Proofs.Ytkipaefhnmfebaa
set_option linter.unusedSimpArgs false
open Go.RowKit

def binB (lim x : Int) : Int := if x < lim then 1 else 0
def binL (lim : Int) (xs : List Int) : List Int := xs.map (binB lim)
theorem binL_len (lim : Int) (xs : List Int) : (binL lim xs).length = xs.length := by simp [binL]
theorem binL_take {lim : Int} {xs : List Int} {k : Nat} (h : k < xs.length) : (binL lim xs).take (k + 1) = (binL lim xs).take k ++ [binB lim (nth xs k)] := by
  rw [take_nth (by rw [binL_len]; exact h)]
  congr 2
  unfold binL
  rw [nth_lt (by simpa using h), nth_lt h]
  simp
set_option maxRecDepth 100000 in
set_option maxHeartbeats 4000000 in
theorem l22Binary_any (h v lim : Int) (A : Option Addr) (n cp : Nat) (xs : List Int) (w : World) (hr : RI w w.heap.size A n xs) (hn : n ≤ 1000000) :
    Calls Try.prog 68 #[.agg #[.int .i64 h, .int .i64 v, .slice A n cp], .int .i64 lim] w fun e w' => ∃ u, e = .returned (.agg #[.int .i64 h, .int .i64 v, u]) ∧ Own w' w.heap.size u (binL lim xs) ∧ Below w.heap.size w w' := by
  obtain ⟨i0, hi⟩ := info_own' info_i64s
  have HI := Lib.hid (And.intro i0.bytes.le_refl hi)
  clear hi
  have HR := Lib.hid hr
  have HLX := Lib.hid hr.len
  clear hr
  obtain ⟨W2, hW2⟩ : ∃ W2, (w.alloc (.cells #[.int .i64 h, .int .i64 v, .slice A n cp] 28)).alloc (.cells #[.int .i64 0, .int .i64 0, .slice none 0 0] 41) = W2 := ⟨_, rfl⟩
  have HS0 : Hid (Own (W2.alloc (.cells #[] 2)) (w.heap.size + 1 + 1) (.slice (some ⟨w.heap.size + 1 + 1, 0, none⟩) 0 0) ((binL lim xs).take 0) ∧ (W2.alloc (.cells #[] 2)).heap[w.heap.size]? = some (.cells #[.int .i64 h, .int .i64 v, .slice A n cp] 28 (0, 0)) ∧ (W2.alloc (.cells #[] 2)).heap[w.heap.size + 1]? = some (.cells #[.int .i64 0, .int .i64 0, .slice none 0 0] 41 (0, 0)) ∧ Below w.heap.size w (W2.alloc (.cells #[] 2))) := Lib.hid (by
    subst hW2
    refine ⟨?_, by (repeat (first | (with_reducible exact heap_alloc_new _ _) | (rw [heap_drew1]) | (rw [heap_drewN1]) | (rw [Below.heap_setCell _ _ _ _ (by first | omega | (simp; done) | (simp; omega))]) | (rw [Below.heap_alloc _ _ _ (by first | omega | (simp; done) | (simp; omega))]) | (exact heap_alloc_at (by first | omega | (simp; done) | (simp; omega))))), by (repeat (first | (with_reducible exact heap_alloc_new _ _) | (rw [heap_drew1]) | (rw [heap_drewN1]) | (rw [Below.heap_setCell _ _ _ _ (by first | omega | (simp; done) | (simp; omega))]) | (rw [Below.heap_alloc _ _ _ (by first | omega | (simp; done) | (simp; omega))]) | (exact heap_alloc_at (by first | omega | (simp; done) | (simp; omega))))), by go_grown⟩
    have := World.ownsRow_made (e := 2) (size := 1) (base := w.heap.size + 1 + 1) ((w.alloc (.cells #[.int .i64 h, .int .i64 v, .slice A n cp] 28)).alloc (.cells #[.int .i64 0, .int .i64 0, .slice none 0 0] 41)) #[] 0 (by simp) (by unfold maxLen; omega) rfl
    simpa [Own] using this)
  rw [← hW2] at HS0
  clear hW2
  go_enter Try.func68, Try.ntmps68
  go_wp2_with fail
  go_loopw [5, 6] (fun q i wr => ∃ k : Nat, k ≤ n ∧ i = .int .i64 k ∧ Hid (Own wr (w.heap.size + 1 + 1) q ((binL lim xs).take k) ∧ wr.heap[w.heap.size]? = some (.cells #[.int .i64 h, .int .i64 v, .slice A n cp] 28 (0, 0)) ∧ wr.heap[w.heap.size + 1]? = some (.cells #[.int .i64 0, .int .i64 0, .slice none 0 0] 41 (0, 0)) ∧ Below w.heap.size w wr)) (fun _ i _ => n - (intOf i).toNat)
  case atStart => exact ⟨0, Nat.zero_le _, rfl, HS0⟩
  case round =>
    clear HS0
    obtain ⟨k, hk, rfl, HS⟩ := hrel
    have hz := lt_of_block HS.out.2.2.1
    obtain ⟨c0, c1, c2, -⟩ := blk3 HS.out.2.1
    by_cases hlt : k < n
    · have hkn : (k : Int) < (n : Int) := by omega
      obtain ⟨b, o, rfl, hb, hx⟩ := (HR.out.below HS.out.2.2.2).cells (by omega)
      have hcx := hx k hlt
      have HT : Hid ((binL lim xs).take (k + 1) = (binL lim xs).take k ++ [binB lim (nth xs k)]) := Lib.hid (binL_take (by rw [HLX.out]; exact hlt))
      have HO := Lib.hid HS.out.1
      have hzz := HS.out.2.2.2.size
      have HZ := Lib.hid (show w.heap.size + 1 + 1 ≤ wr.heap.size by omega)
      have hLE : ((binL lim xs).take k).length ≤ 1000000 := by rw [List.length_take, binL_len]; omega
      have hbw : b < wr.heap.size := by omega
      obtain ⟨A', c', rfl, -⟩ := HO.out.shape
      generalize nth xs k = x at *
      clear hx
      by_cases hxl : x < lim
      · have HB : Hid (binB lim x = 1) := Lib.hid (if_pos hxl)
        go_wp2_with (at_builtin; refine wpList_append_own _ rfl _ _ 22 rfl (w.heap.size + 1 + 1) 2 i0 (.int .i64 0) 1 8 Try.underlying22 HI.out.2.1 HI.out.2.2.1 HI.out.2.2.2.1 HI.out.2.2.2.2 rfl (by decide) _ _ _ rfl (Own.alloc HO.out _) ⟨wr.heap.size, 0, none⟩ 1 1 [.int .i64 (1)] rfl rfl (cell_one_new _ _ _) (one_ok _) (own_max HO.out (by omega)) (own_bytes HO.out (by omega)) (own_base HZ.out) ?_; intro va wa howna hgrowa _; have hoa := Lib.hid (Own.snoc howna); have hga := Lib.hid hgrowa; clear howna hgrowa)
        go_roundw
        case rel => exact ⟨k + 1, by omega, by go_num, Lib.hid ⟨hoa.out.to (by rw [HT.out, HB.out]), grown1 HO.out hga.out HS.out.2.1 (by decide), grown1 HO.out hga.out HS.out.2.2.1 (by decide), (HS.out.2.2.2.alloc hzz _).grown hga.out (by rw [World.size_alloc]; omega) (fun j hj => by have := (World.ownsRow.lt HO.out j hj).1; omega)⟩⟩
        case measure => simp [intOf]; omega
      · have HB : Hid (binB lim x = 0) := Lib.hid (if_neg hxl)
        go_wp2_with (at_builtin; refine wpList_append_own _ rfl _ _ 22 rfl (w.heap.size + 1 + 1) 2 i0 (.int .i64 0) 1 8 Try.underlying22 HI.out.2.1 HI.out.2.2.1 HI.out.2.2.2.1 HI.out.2.2.2.2 rfl (by decide) _ _ _ rfl (Own.alloc HO.out _) ⟨wr.heap.size, 0, none⟩ 1 1 [.int .i64 (0)] rfl rfl (cell_one_new _ _ _) (one_ok _) (own_max HO.out (by omega)) (own_bytes HO.out (by omega)) (own_base HZ.out) ?_; intro va wa howna hgrowa _; have hoa := Lib.hid (Own.snoc howna); have hga := Lib.hid hgrowa; clear howna hgrowa)
        go_roundw
        case rel => exact ⟨k + 1, by omega, by go_num, Lib.hid ⟨hoa.out.to (by rw [HT.out, HB.out]), grown1 HO.out hga.out HS.out.2.1 (by decide), grown1 HO.out hga.out HS.out.2.2.1 (by decide), (HS.out.2.2.2.alloc hzz _).grown hga.out (by rw [World.size_alloc]; omega) (fun j hj => by have := (World.ownsRow.lt HO.out j hj).1; omega)⟩⟩
        case measure => simp [intOf]; omega
    · have hkn : ¬ (k : Int) < (n : Int) := by omega
      have HF : Hid (Own wr (w.heap.size + 1 + 1) u5 (binL lim xs)) := Lib.hid (HS.out.1.to (List.take_of_length_le (by rw [binL_len, HLX.out]; omega)))
      obtain ⟨A', c', rfl, -⟩ := HF.out.shape
      obtain ⟨s0, s1, s2⟩ := res3 HS.out.2.2.1 (.int .i64 h) (.int .i64 v) (.slice A' (binL lim xs).length c')
      obtain ⟨y0, y1, y2, yf⟩ := blk3 HS.out.2.2.1
      have hzz := HS.out.2.2.2.size
      go_wp2_with fail
      (try simp only [Exit.inBlock, Exit.then]); refine bodyPost_ret (by simp [results, Try.results68, go_sem, s0, s1, s2]; try rfl) rfl ?_
      exact ⟨_, rfl, (((HF.out.setLt (p := ⟨w.heap.size + 1, 0, none⟩) (by show w.heap.size + 1 < _; omega) _).setLt (p := ⟨w.heap.size + 1, 1, none⟩) (by show w.heap.size + 1 < _; omega) _).setLt (p := ⟨w.heap.size + 1, 2, none⟩) (by show w.heap.size + 1 < _; omega) _).more (by omega), ((HS.out.2.2.2.setCell (p := ⟨w.heap.size + 1, 0, none⟩) (Nat.le_succ _) _).setCell (p := ⟨w.heap.size + 1, 1, none⟩) (Nat.le_succ _) _).setCell (p := ⟨w.heap.size + 1, 2, none⟩) (Nat.le_succ _) _⟩
/-- A grid of zeros that is being filled. -/
structure BnP (w wr : World) (h v : Int) (A : Option Addr) (n cp g c b5 : Nat) (r cc : Int) (L : List Int) : Prop where
  own : Own wr (w.heap.size + 1 + 1) (.slice (some ⟨g, 0, none⟩) n c) L
  rb : wr.heap[w.heap.size]? = some (.cells #[.int .i64 h, .int .i64 v, .slice A n cp] 28 (0, 0))
  zb : wr.heap[w.heap.size + 1]? = some (.cells #[.int .i64 0, .int .i64 0, .slice none 0 0] 41 (0, 0))
  gb : wr.heap[b5]? = some (.cells #[.int .i64 r, .int .i64 cc, .slice (some ⟨g, 0, none⟩) n c] 41 (0, 0))
  bel : Below w.heap.size w wr
  le : w.heap.size ≤ g
theorem own_ne {w : World} {B g n c b t : Nat} {L : List Int} {cs : Array Value} (h : Own w B (.slice (some ⟨g, 0, none⟩) n c) L) (hb : w.heap[b]? = some (.cells cs t (0, 0))) (ht : t ≠ 2) : b ≠ g := by
  rintro rfl
  rcases h.2 with ⟨e, _⟩ | ⟨g', cap, cur, e, hB, hh, _⟩
  · cases e
  · simp only [Value.slice.injEq, Option.some.injEq, Addr.mk.injEq] at e
    rw [← e.1.1, hb] at hh
    simp at hh
    exact ht hh.2
theorem BnP.set {w wr : World} {h v r cc : Int} {A : Option Addr} {n cp g c b5 k : Nat} {L : List Int} {x : Int} (p : BnP w wr h v A n cp g c b5 r cc L) (hl : L.length = n) : BnP w (wr.setCell ⟨g, k, none⟩ (.int .i64 x)) h v A n cp g c b5 r cc (L.set k x) :=
  ⟨Own.setn hl p.own, blk_other p.rb (own_ne p.own p.rb (by decide)), blk_other p.zb (own_ne p.own p.zb (by decide)), blk_other p.gb (own_ne p.own p.gb (by decide)), p.bel.setCell (p := ⟨g, k, none⟩) p.le _, p.le⟩
theorem BnP.to {w wr : World} {h v r cc : Int} {A : Option Addr} {n cp g c b5 : Nat} {L L' : List Int} (p : BnP w wr h v A n cp g c b5 r cc L) (e : L = L') : BnP w wr h v A n cp g c b5 r cc L' := e ▸ p
set_option maxRecDepth 100000 in
set_option maxHeartbeats 4000000 in
theorem binary_any (R C : Nat) (lim : Int) (A : Option Addr) (n cp : Nat) (xs : List Int) (w : World) (hr : RI w w.heap.size A n xs) (hn : R * C = n) (hn1 : 1 ≤ n ∧ n ≤ 1000000) :
    Calls Try.prog 41 #[.agg #[.int .i64 R, .int .i64 C, .slice A n cp], .int .i64 lim] w fun e w' => ∃ u, e = .returned (.agg #[.int .i64 R, .int .i64 C, u]) ∧ Own w' w.heap.size u (binL lim xs) ∧ Below w.heap.size w w' := by
  have HR := Lib.hid hr
  have HLX := Lib.hid hr.len
  have HBK := Lib.hid (fun w => blank_any R C n 0 w hn hn1.2)
  clear hr hn
  go_enter Try.func41, Try.ntmps41
  have HPK : Hid (∀ w1 g c, Own w1 (w.heap.size + 1 + 1) (.slice (some ⟨g, 0, none⟩) n c) (List.replicate n 0) → Below (w.heap.size + 1 + 1) ((w.alloc (.cells #[.int .i64 R, .int .i64 C, .slice A n cp] 28)).alloc (.cells #[.int .i64 0, .int .i64 0, .slice none 0 0] 41)) w1 → BnP w (w1.alloc (.cells #[.int .i64 R, .int .i64 C, .slice (some ⟨g, 0, none⟩) n c] 41)) R C A n cp g c w1.heap.size R C (List.replicate n 0)) := Lib.hid (fun w1 g c h1 h2 => by
    have hs := h2.size
    simp only [World.size_alloc] at hs
    have hle := (World.ownsRow.lt h1 g rfl).1
    exact ⟨h1.keep (by go_grown), blk_alloc (blk_below (by (repeat (first | (with_reducible exact heap_alloc_new _ _) | (rw [heap_drew1]) | (rw [heap_drewN1]) | (rw [Below.heap_setCell _ _ _ _ (by first | omega | (simp; done) | (simp; omega))]) | (rw [Below.heap_alloc _ _ _ (by first | omega | (simp; done) | (simp; omega))]) | (exact heap_alloc_at (by first | omega | (simp; done) | (simp; omega)))))) h2 (by omega)) (by omega), blk_alloc (blk_below (by (repeat (first | (with_reducible exact heap_alloc_new _ _) | (rw [heap_drew1]) | (rw [heap_drewN1]) | (rw [Below.heap_setCell _ _ _ _ (by first | omega | (simp; done) | (simp; omega))]) | (rw [Below.heap_alloc _ _ _ (by first | omega | (simp; done) | (simp; omega))]) | (exact heap_alloc_at (by first | omega | (simp; done) | (simp; omega)))))) h2 (by omega)) (by omega), heap_alloc_new _ _, ((by go_grown : Below w.heap.size w _).trans (h2.mono (by omega))).alloc (by omega) _, by omega⟩)
  go_wp2_with (go_at_call 63; with_reducible refine (HBK.out _).mono ?_; rintro e1 w1 ⟨u, rfl, hu, hb1⟩; rw [World.size_alloc, World.size_alloc] at hu hb1; obtain ⟨g, c, rfl, -, -, -, -⟩ := hu.row (by rw [List.length_replicate]; omega); rw [List.length_replicate] at hu ⊢; have HP0 := Lib.hid (HPK.out _ _ _ hu hb1); obtain ⟨z0, z1, z2, -⟩ := blk3 HP0.out.rb; clear hu hb1)
  clear HPK HBK
  generalize w1.heap.size = b5 at *
  go_loopw [16] (fun i wr => ∃ k : Nat, k ≤ n ∧ i = .int .i64 k ∧ Hid (BnP w wr R C A n cp g c b5 R C ((binL lim xs).take k ++ (List.replicate n 0).drop k))) (fun i _ => n - (intOf i).toNat)
  case atStart => exact ⟨0, Nat.zero_le _, rfl, Lib.hid (HP0.out.to (by simp))⟩
  case round =>
    clear HP0
    obtain ⟨k, hk, rfl, HS⟩ := hrel
    have hzz := HS.out.bel.size
    obtain ⟨y0, y1, y2, -⟩ := blk3 HS.out.gb
    have hlm : ((binL lim xs).take k ++ (List.replicate n (0 : Int)).drop k).length = n := by
      rw [len_mix (by rw [binL_len, List.length_replicate, HLX.out]) (by simpa using hk), List.length_replicate]
    by_cases hlt : k < n
    · have hkn : (k : Int) < (n : Int) := by omega
      obtain ⟨b, o, rfl, hb, hx⟩ := (HR.out.below HS.out.bel).cells (by omega)
      have hcx := hx k hlt
      have hbw : b < wr.heap.size := by omega
      obtain ⟨g', c', e, -, hgl, hcg, hfg⟩ := HS.out.own.row (by rw [hlm]; omega)
      have hck := hcg k (by rw [hlm]; exact hlt)
      have hfk := hfg k
      rw [hlm] at e
      cases e
      have HT : Hid (((binL lim xs).take k ++ (List.replicate n 0).drop k).set k (binB lim (nth xs k)) = (binL lim xs).take (k + 1) ++ (List.replicate n 0).drop (k + 1)) := Lib.hid (by
        have h := set_mix (xs := List.replicate n 0) (ys := binL lim xs) (k := k) (by rw [binL_len, List.length_replicate, HLX.out]) (by simpa using hlt)
        have e : nth (binL lim xs) k = binB lim (nth xs k) := by unfold binL; rw [nth_lt (by simpa [HLX.out] using hlt), nth_lt (by rw [HLX.out]; exact hlt)]; simp
        rwa [e] at h)
      have HN0 : Hid (nth ((binL lim xs).take k ++ (List.replicate n 0).drop k) k = 0) := Lib.hid (by
        rw [nth_mix (xs := List.replicate n 0) (ys := binL lim xs) (by rw [binL_len, List.length_replicate, HLX.out]) (by simpa using hlt), nth_lt (by simpa using hlt)]; simp)
      have HLM := Lib.hid hlm
      generalize (binL lim xs).take k ++ (List.replicate n 0).drop k = Lk at *
      generalize nth xs k = x at *
      clear hx hcg hfg hlm
      by_cases hxl : x < lim
      · have HB : Hid (binB lim x = 1) := Lib.hid (if_pos hxl)
        go_wp2_with fail
        go_roundw
        case rel => exact ⟨k + 1, by omega, by go_num, Lib.hid ((HS.out.set (k := k) (x := 1) HLM.out).to (by rw [← HT.out, HB.out]))⟩
        case measure => simp [intOf]; omega
      · have HB : Hid (binB lim x = 0) := Lib.hid (if_neg hxl)
        have HSM : Hid (Lk = (binL lim xs).take (k + 1) ++ (List.replicate n 0).drop (k + 1)) := Lib.hid (by
          rw [← HT.out, HB.out, ← HN0.out]
          have hkl : k < Lk.length := by rw [HLM.out]; exact hlt
          rw [nth_lt hkl, List.set_getElem_self])
        go_wp2_with fail
        go_roundw
        case rel => exact ⟨k + 1, by omega, by go_num, Lib.hid (HS.out.to HSM.out)⟩
        case measure => simp [intOf]; omega
    · have hkn : ¬ (k : Int) < (n : Int) := by omega
      have HF : Hid (BnP w wr R C A n cp g c b5 R C (binL lim xs)) := Lib.hid (HS.out.to (by rw [List.take_of_length_le (by rw [binL_len, HLX.out]; omega), List.drop_of_length_le (by simp; omega), List.append_nil]))
      obtain ⟨s0, s1, s2⟩ := res3 HF.out.zb (.int .i64 R) (.int .i64 C) (.slice (some ⟨g, 0, none⟩) n c)
      obtain ⟨q0, q1, q2, qf⟩ := blk3 HF.out.zb
      clear HS
      go_wp2_with fail
      (try simp only [Exit.inBlock, Exit.then]); refine bodyPost_ret (by simp [results, Try.results41, go_sem, s0, s1, s2]; try rfl) rfl ?_
      exact ⟨_, rfl, (((HF.out.own.setLt (p := ⟨w.heap.size + 1, 0, none⟩) (by show w.heap.size + 1 < _; omega) _).setLt (p := ⟨w.heap.size + 1, 1, none⟩) (by show w.heap.size + 1 < _; omega) _).setLt (p := ⟨w.heap.size + 1, 2, none⟩) (by show w.heap.size + 1 < _; omega) _).more (by omega), ((HF.out.bel.setCell (p := ⟨w.heap.size + 1, 0, none⟩) (Nat.le_succ _) _).setCell (p := ⟨w.heap.size + 1, 1, none⟩) (Nat.le_succ _) _).setCell (p := ⟨w.heap.size + 1, 2, none⟩) (Nat.le_succ _) _⟩
set_option maxRecDepth 100000 in
set_option maxHeartbeats 4000000 in
theorem BinaryOf_any (R C : Nat) (A : Option Addr) (n cp : Nat) (xs : List Int) (w : World) (hr : RI w w.heap.size A n xs) (hg : rasB (R : Nat) (C : Nat) xs = true) (hn : R * C = n) (hn1 : 1 ≤ n ∧ n ≤ 1000000) :
    Calls Try.prog 26 #[.agg #[.int .i64 R, .int .i64 C, .slice A n cp], .int .i64 100] w fun e w' => ∃ u, e = .returned (.tuple #[.agg #[.int .i64 R, .int .i64 C, u], .int .i64 0]) ∧ Own w' w.heap.size u (binL 100 xs) ∧ Below w.heap.size w w' := by
  obtain ⟨W2, hW2⟩ : ∃ W2, (w.alloc (.cells #[.int .i64 R, .int .i64 C, .slice A n cp] 28)).alloc (.cells #[.int .i64 0, .int .i64 0, .slice none 0 0] 41) = W2 := ⟨_, rfl⟩
  have hz2 : W2.heap.size = w.heap.size + 1 + 1 := by rw [← hW2]; simp
  have HB2 : Hid (Below w.heap.size w W2) := Lib.hid (by rw [← hW2]; go_grown)
  have HRB : Hid (W2.heap[w.heap.size]? = some (.cells #[.int .i64 R, .int .i64 C, .slice A n cp] 28 (0, 0)) ∧ W2.heap[w.heap.size + 1]? = some (.cells #[.int .i64 0, .int .i64 0, .slice none 0 0] 41 (0, 0))) := Lib.hid (by rw [← hW2]; exact ⟨by (repeat (first | (with_reducible exact heap_alloc_new _ _) | (rw [heap_drew1]) | (rw [heap_drewN1]) | (rw [Below.heap_setCell _ _ _ _ (by first | omega | (simp; done) | (simp; omega))]) | (rw [Below.heap_alloc _ _ _ (by first | omega | (simp; done) | (simp; omega))]) | (exact heap_alloc_at (by first | omega | (simp; done) | (simp; omega))))), by (repeat (first | (with_reducible exact heap_alloc_new _ _) | (rw [heap_drew1]) | (rw [heap_drewN1]) | (rw [Below.heap_setCell _ _ _ _ (by first | omega | (simp; done) | (simp; omega))]) | (rw [Below.heap_alloc _ _ _ (by first | omega | (simp; done) | (simp; omega))]) | (exact heap_alloc_at (by first | omega | (simp; done) | (simp; omega)))))⟩)
  have HIR := Lib.hid (IsRaster_any R C A n cp xs W2 w.heap.size (hr.below HB2.out) (by omega) (by omega))
  rw [hg] at HIR
  have HBI := Lib.hid (fun (w' : World) (hb : Below W2.heap.size W2 w') => binary_any R C 100 A n cp xs w' ((hr.below (HB2.out.trans (hb.mono (by omega)))).more (by have := hb.size; omega)) hn hn1)
  have hin : inR 100 0 256 = true := by decide
  obtain ⟨p0, p1, p2, -⟩ := blk3 HRB.out.1
  clear hr hg hn
  go_enter Try.func26, Try.ntmps26
  go_wp2_with first | (go_at_call 32; with_reducible refine HIR.out.mono ?_; rintro e1 w1 ⟨rfl, hb1⟩; have HB1 := Lib.hid hb1; obtain ⟨z0, z1, z2, -⟩ := blk3 ((hb1.block w.heap.size (by omega)).trans HRB.out.1); have hz1 := hb1.size; clear hb1) | (go_at_call 39; refine (inRange_any _ _ _ _).mono ?_; rintro e3 w3 ⟨rfl, rfl⟩) | (go_at_call 41; with_reducible refine (HBI.out _ HB1.out).mono ?_; rintro e4 w4 ⟨u, rfl, hu, hb4⟩; have HB4 := Lib.hid (HB1.out.trans (hb4.mono hz1)); have HU := Lib.hid (hu.more hz1); obtain ⟨A', c', rfl, -⟩ := hu.shape; have HZ4 := Lib.hid ((HB4.out.block (w.heap.size + 1) (by omega)).trans HRB.out.2); have hz4 := hb4.size; obtain ⟨q0, q1, q2, qf⟩ := blk3 HZ4.out; obtain ⟨s0, s1, s2⟩ := res3 HZ4.out (.int .i64 R) (.int .i64 C) (.slice A' (binL 100 xs).length c'); clear hu hb4)
  (try simp only [Exit.inBlock, Exit.then]); refine bodyPost_ret (by simp [results, Try.results26, go_sem, s0, s1, s2]; try rfl) rfl ?_
  rw [hz2] at HU
  have HBW := HB2.out.trans (HB4.out.mono (by omega))
  exact ⟨_, rfl, (((HU.out.setLt (p := ⟨w.heap.size + 1, 0, none⟩) (Nat.lt_succ_self _) _).setLt (p := ⟨w.heap.size + 1, 1, none⟩) (Nat.lt_succ_self _) _).setLt (p := ⟨w.heap.size + 1, 2, none⟩) (Nat.lt_succ_self _) _).more (by omega), ((HBW.setCell (p := ⟨w.heap.size + 1, 0, none⟩) (Nat.le_succ _) _).setCell (p := ⟨w.heap.size + 1, 1, none⟩) (Nat.le_succ _) _).setCell (p := ⟨w.heap.size + 1, 2, none⟩) (Nat.le_succ _) _⟩
end Go.Proofs.Ytkipaefhnmfebaa
namespace Go.Proofs.Ytkipaefhnmfebaa
set_option linter.unusedSimpArgs false
open Go.RowKit

/-- What is drawn: a grid whose row is owned. -/
def DW (w : World) (B : Nat) (u : Value) : Prop := ∃ (r c : Int) (v : Value) (xs : List Int), u = .agg #[.int .i64 r, .int .i64 c, v] ∧ 1 ≤ xs.length ∧ xs.length ≤ 40000 ∧ Own w B v xs
theorem KB.set3 {s : SP} {w0 w : World} {l : List (Nat × Obj)} {g t : Nat} {a b c x y z : Value} (h : KB s w0 ((g, .cells #[a, b, c] t (0, 0)) :: l) w) (hg : w0.heap.size ≤ g) (hb : s.b < g) (hl : ∀ p ∈ l, p.1 ≠ g) : KB s w0 ((g, .cells #[x, y, z] t (0, 0)) :: l) (((w.setCell ⟨g, 0, none⟩ x).setCell ⟨g, 1, none⟩ y).setCell ⟨g, 2, none⟩ z) := by
  refine ⟨((h.bx.setCell (p := ⟨g, 0, none⟩) hg hb x).setCell (p := ⟨g, 1, none⟩) hg hb y).setCell (p := ⟨g, 2, none⟩) hg hb z, s.st ((((Below.refl (s.b + 1) _).setCell (p := ⟨g, 0, none⟩) hb x).setCell (p := ⟨g, 1, none⟩) hb y).setCell (p := ⟨g, 2, none⟩) hb z) h.inv, fun p hp => ?_⟩
  rcases List.mem_cons.1 hp with rfl | hp
  · have h0 := (h.k _ List.mem_cons_self).1
    have h1 : (w.setCell ⟨g, 0, none⟩ x).heap[g]? = some (.cells #[x, b, c] t (0, 0)) := by simpa using blk3_set (k := 0) (u := x) h0
    have h2 : ((w.setCell ⟨g, 0, none⟩ x).setCell ⟨g, 1, none⟩ y).heap[g]? = some (.cells #[x, y, c] t (0, 0)) := by simpa using blk3_set (k := 1) (u := y) h1
    exact ⟨by simpa using blk3_set (k := 2) (u := z) h2, by simp; omega⟩
  · have h0 := h.k p (List.mem_cons_of_mem _ hp)
    exact ⟨blk_other (blk_other (blk_other h0.1 (hl p hp)) (hl p hp)) (hl p hp), h0.2⟩
/-- A raster's box, and its row, made behind the world w3. -/
structure RsP (s : SP) (w3 : World) (g : Nat) (h v : Int) (u : Value) (zs : List Int) (w : World) : Prop where
  kb : KB s w3 [(g, .cells #[.int .i64 h, .int .i64 v, u] 28 (0, 0))] w
  own : Own w w3.heap.size u zs
theorem RsP.late {s : SP} {w3 w : World} {B : Nat} {h v : Int} {u : Value} {zs : List Int} (k : KB s w3 [] w) (o : Own w B u zs) (hB : w3.heap.size ≤ B) : RsP s w3 w.heap.size h v u zs (w.alloc (.cells #[.int .i64 h, .int .i64 v, u] 28)) :=
  ⟨k.push _ _ rfl, (o.more hB).keep ((Below.refl _ _).alloc (Nat.le_refl _) _)⟩
theorem RsP.early {s : SP} {w3 w : World} {g B : Nat} {h v : Int} {u a b c : Value} {zs : List Int} (k : KB s w3 [(g, .cells #[a, b, c] 28 (0, 0))] w) (o : Own w B u zs) (hg : g < B) (h3 : w3.heap.size ≤ g) (hb : s.b < g) :
    RsP s w3 g h v u zs (((w.setCell ⟨g, 0, none⟩ (.int .i64 h)).setCell ⟨g, 1, none⟩ (.int .i64 v)).setCell ⟨g, 2, none⟩ u) :=
  ⟨k.set3 h3 hb (fun p hp => by cases hp), (((o.setLt (p := ⟨g, 0, none⟩) hg _).setLt (p := ⟨g, 1, none⟩) hg _).setLt (p := ⟨g, 2, none⟩) hg _).more (by omega)⟩
theorem KB.three {s : SP} {w0 w : World} {l : List (Nat × Obj)} {g t : Nat} {a b c : Value} (h : KB s w0 l w) (hg : w0.heap[g]? = some (.cells #[a, b, c] t (0, 0))) (hn : g ≠ s.b) : w.cell? ⟨g, 0, none⟩ = some a ∧ w.cell? ⟨g, 1, none⟩ = some b ∧ w.cell? ⟨g, 2, none⟩ = some c := by
  have h0 := (h.bx.block g (lt_of_block hg) hn).trans hg
  obtain ⟨x0, x1, x2, -⟩ := blk3 h0
  exact ⟨x0, x1, x2⟩
theorem prL_len {R C : Int} {xs : List Int} {p t q d l : Int} (h : prK R C xs p t q d l = 0) : 1 ≤ (prL R C xs p t q d l).length ∧ (prL R C xs p t q d l).length ≤ 40000 := by
  have h' := h
  unfold prL
  rw [if_pos h]
  unfold prK at h'
  split at h'
  · split at h'
    · split at h'
      · obtain ⟨-, -, h4⟩ := psK_0 h'
        unfold rszB at h4
        simp only [Bool.and_eq_true, decide_eq_true_eq] at h4
        obtain ⟨⟨h5, h6⟩, h7⟩ := h4
        have h5 := inR_true h5
        have h6 := inR_true h6
        generalize (R + 2 * q) * t = x at *
        generalize (C + 2 * q) * p = y at *
        rw [grdL_len]
        obtain ⟨x, rfl⟩ := Int.eq_ofNat_of_zero_le (show 0 ≤ x by omega)
        obtain ⟨y, rfl⟩ := Int.eq_ofNat_of_zero_le (show 0 ≤ y by omega)
        rw [Int.toNat_natCast, Int.toNat_natCast]
        have hx : 1 ≤ x := by omega
        have hy : 1 ≤ y := by omega
        have hp := Nat.mul_pos hx hy
        have e : ((x * y : Nat) : Int) = (x : Int) * y := by simp
        omega
      · simp at h'
    · simp at h'
  · simp at h'
theorem pg_draw (R C : Int) (A : Option Addr) (n cp : Nat) (xs : List Int) (p t q : Int) (w : World) (B : Nat) (hr : RI w B A n xs) (hB : B ≤ w.heap.size) (hn : n ≤ 1000000000000000) :
    Calls Try.prog 67 #[.agg #[.int .i64 R, .int .i64 C, .slice A n cp], .agg #[.int .i64 p, .int .i64 t, .int .i64 q, .int .i64 0, .int .i64 0, .int .i64 255]] w fun e w' => ∃ (h v k : Int) (u : Value) (zs : List Int), e = .returned (.tuple #[.agg #[.int .i64 h, .int .i64 v, u], .int .i64 k]) ∧ (k = 0 → 1 ≤ zs.length ∧ zs.length ≤ 40000) ∧ Own w' w.heap.size u zs ∧ Below w.heap.size w w' :=
  (sPrintGrid_any R C A n cp xs p t q 0 255 w B hr hB hn).mono fun _ _ ⟨u, h1, h2, h3⟩ => ⟨_, _, _, u, _, h1, prL_len, h2, h3⟩

set_option maxRecDepth 20000 in
set_option maxHeartbeats 8000000 in
theorem l23Draw_any (b : Nat) (A : Option Addr) (n c : Nat) (bs : List Int) (B : Nat) (w : World) (hI : (srcP 97 b A n c bs B).I w) :
    Calls Try.prog 44 #[.pointer (some ⟨b, 0, none⟩)] w fun e w' =>
      ∃ u, e = .returned u ∧ DW w' w.heap.size u ∧ BX (srcP 97 b A n c bs B) w.heap.size w w' := by
  have hbw := srcP_lt hI
  have hbw0 : b < w.heap.size + 1 := by omega
  have HI := Lib.hid hI
  clear hI
  go_enter Try.func44, Try.ntmps44
  go_wp2_with fail
  (go_at_call 62; with_reducible refine (draw_any b A n c bs B (8) _ (bxinv (B := w.heap.size) ?_ HI) (by omega)).mono ?_; (focus (repeat (first | (with_reducible assumption) | (with_reducible exact BX.refl _ _ _) | (with_reducible refine BX.drewN ?_ _) | (with_reducible refine BX.drew ?_) | ((with_reducible refine BX.alloc ?_ ?_ _); rotate_left; (focus (first | (simp; done) | omega | (simp; omega) | (simp [srcP]; done) | (simp [srcP]; omega)))) | ((with_reducible refine BX.setCell ?_ ?_ ?_ _); rotate_left; (focus (first | (simp; done) | omega | (simp; omega) | (simp [srcP]; done) | (simp [srcP]; omega))); (focus (first | (simp; done) | omega | (simp; omega) | (simp [srcP]; done) | (simp [srcP]; omega))))))); rintro e1 w1 ⟨u1, rfl, ⟨r1, rfl, hr1a, hr1b⟩, hb1⟩; have hB1 : BX (srcP 97 b A n c bs B) w.heap.size w w1 := BX.then (by (repeat (first | (with_reducible assumption) | (with_reducible exact BX.refl _ _ _) | (with_reducible refine BX.drewN ?_ _) | (with_reducible refine BX.drew ?_) | ((with_reducible refine BX.alloc ?_ ?_ _); rotate_left; (focus (first | (simp; done) | omega | (simp; omega) | (simp [srcP]; done) | (simp [srcP]; omega)))) | ((with_reducible refine BX.setCell ?_ ?_ ?_ _); rotate_left; (focus (first | (simp; done) | omega | (simp; omega) | (simp [srcP]; done) | (simp [srcP]; omega))); (focus (first | (simp; done) | omega | (simp; omega) | (simp [srcP]; done) | (simp [srcP]; omega))))))) (by first | omega | (simp; done) | (simp; omega)) hb1; have hc1 := bxcell hb1; have hf1 := bxfrozen hb1; simp only [srcP_b] at hc1 hf1; have hz1a : w.heap.size < w1.heap.size := (by have := hb1.size; first | omega | (simp at this; omega)))
  (have hh1 := Lib.hid (show w1.heap[w.heap.size]? = some (.cells #[.int .i64 0, .int .i64 0, .slice none 0 0] 41 (0, 0)) from (hb1.block (w.heap.size) (by first | omega | (simp; done) | (simp; omega) | (simp [srcP]; omega)) (by first | omega | (simp; done) | (simp; omega) | (simp [srcP]; omega))).trans (by repeat (first | (with_reducible exact rfl) | (with_reducible exact heap_alloc_new _ _) | (rw [heap_drew1]) | (rw [heap_drewN1]) | (rw [Below.heap_setCell _ _ _ _ (by first | omega | (simp; done) | (simp; omega) | (simp [srcP]; omega))]) | (rw [Below.heap_alloc _ _ _ (by first | omega | (simp; done) | (simp; omega) | (simp [srcP]; omega))])))))
  have hs1 := hb1.size
  simp only [World.size_alloc] at hs1
  have hbx1 : b < w1.heap.size := by omega
  have hw1 : w.heap.size < w1.heap.size := by omega
  clear hc1 hf1
  by_cases e0 : r1 = 0
  · subst e0
    go_wp2_with fail
    (go_at_call 64; with_reducible refine (l14DrawGrid_any b A n c bs B _ (bxinv (B := w.heap.size) ?_ HI)).mono ?_; (focus (repeat (first | (with_reducible assumption) | (with_reducible exact BX.refl _ _ _) | (with_reducible refine BX.drewN ?_ _) | (with_reducible refine BX.drew ?_) | ((with_reducible refine BX.alloc ?_ ?_ _); rotate_left; (focus (first | (simp; done) | omega | (simp; omega) | (simp [srcP]; done) | (simp [srcP]; omega)))) | ((with_reducible refine BX.setCell ?_ ?_ ?_ _); rotate_left; (focus (first | (simp; done) | omega | (simp; omega) | (simp [srcP]; done) | (simp [srcP]; omega))); (focus (first | (simp; done) | omega | (simp; omega) | (simp [srcP]; done) | (simp [srcP]; omega))))))); rintro e9 w9 ⟨u9, rfl, hdg, hb9⟩; have hB9 : BX (srcP 97 b A n c bs B) w.heap.size w w9 := BX.then (by (repeat (first | (with_reducible assumption) | (with_reducible exact BX.refl _ _ _) | (with_reducible refine BX.drewN ?_ _) | (with_reducible refine BX.drew ?_) | ((with_reducible refine BX.alloc ?_ ?_ _); rotate_left; (focus (first | (simp; done) | omega | (simp; omega) | (simp [srcP]; done) | (simp [srcP]; omega)))) | ((with_reducible refine BX.setCell ?_ ?_ ?_ _); rotate_left; (focus (first | (simp; done) | omega | (simp; omega) | (simp [srcP]; done) | (simp [srcP]; omega))); (focus (first | (simp; done) | omega | (simp; omega) | (simp [srcP]; done) | (simp [srcP]; omega))))))) (by first | omega | (simp; done) | (simp; omega)) hb9; have hc9 := bxcell hb9; have hf9 := bxfrozen hb9; simp only [srcP_b] at hc9 hf9)
    obtain ⟨r', c', v', xs', rfl, hx1, hx2, ho', -, -, -, -⟩ := hdg
    (have hh9 := Lib.hid (show w9.heap[w.heap.size]? = some (.cells #[.int .i64 0, .int .i64 0, .slice none 0 0] 41 (0, 0)) from (hb9.block (w.heap.size) (by first | omega | (simp; done) | (simp; omega) | (simp [srcP]; omega)) (by first | omega | (simp; done) | (simp; omega) | (simp [srcP]; omega))).trans (by repeat (first | (with_reducible exact hh1.out) | (with_reducible exact heap_alloc_new _ _) | (rw [heap_drew1]) | (rw [heap_drewN1]) | (rw [Below.heap_setCell _ _ _ _ (by first | omega | (simp; done) | (simp; omega) | (simp [srcP]; omega))]) | (rw [Below.heap_alloc _ _ _ (by first | omega | (simp; done) | (simp; omega) | (simp [srcP]; omega))])))))
    obtain ⟨A', c'', rfl, -⟩ := ho'.shape
    have HO9 := Lib.hid ho'
    obtain ⟨z0, z1, z2, zf⟩ := blk3 hh9.out
    obtain ⟨s0, s1, s2⟩ := res3 hh9.out (.int .i64 r') (.int .i64 c') (.slice A' xs'.length c'')
    clear hc9 hf9 hb9 ho'
    go_wp2_with fail
    (try simp only [Exit.inBlock, Exit.then]); refine bodyPost_ret (by simp [results, Try.results44, go_sem, s0, s1, s2]; try rfl) rfl ?_
    exact ⟨_, rfl, ⟨_, _, _, xs', rfl, hx1, by omega, ((((HO9.out.setLt (p := ⟨w.heap.size, 0, none⟩) hw1 _).setLt (p := ⟨w.heap.size, 1, none⟩) hw1 _).setLt (p := ⟨w.heap.size, 2, none⟩) hw1 _)).more (Nat.le_of_lt hw1)⟩, ((hB9.setCell (p := ⟨w.heap.size, 0, none⟩) (Nat.le_refl _) hbw _).setCell (p := ⟨w.heap.size, 1, none⟩) (Nat.le_refl _) hbw _).setCell (p := ⟨w.heap.size, 2, none⟩) (Nat.le_refl _) hbw _⟩
  have e0' : (r1 == 0) = false := by simpa using e0
  go_wp2_with fail
  (go_at_call 65; with_reducible refine (l14DrawSquare_any b A n c bs B _ (bxinv (B := w.heap.size) ?_ HI)).mono ?_; (focus (repeat (first | (with_reducible assumption) | (with_reducible exact BX.refl _ _ _) | (with_reducible refine BX.drewN ?_ _) | (with_reducible refine BX.drew ?_) | ((with_reducible refine BX.alloc ?_ ?_ _); rotate_left; (focus (first | (simp; done) | omega | (simp; omega) | (simp [srcP]; done) | (simp [srcP]; omega)))) | ((with_reducible refine BX.setCell ?_ ?_ ?_ _); rotate_left; (focus (first | (simp; done) | omega | (simp; omega) | (simp [srcP]; done) | (simp [srcP]; omega))); (focus (first | (simp; done) | omega | (simp; omega) | (simp [srcP]; done) | (simp [srcP]; omega))))))); rintro e2 w2 ⟨u2, rfl, hdg, hb2⟩; have hB2 : BX (srcP 97 b A n c bs B) w.heap.size w w2 := BX.then (by (repeat (first | (with_reducible assumption) | (with_reducible exact BX.refl _ _ _) | (with_reducible refine BX.drewN ?_ _) | (with_reducible refine BX.drew ?_) | ((with_reducible refine BX.alloc ?_ ?_ _); rotate_left; (focus (first | (simp; done) | omega | (simp; omega) | (simp [srcP]; done) | (simp [srcP]; omega)))) | ((with_reducible refine BX.setCell ?_ ?_ ?_ _); rotate_left; (focus (first | (simp; done) | omega | (simp; omega) | (simp [srcP]; done) | (simp [srcP]; omega))); (focus (first | (simp; done) | omega | (simp; omega) | (simp [srcP]; done) | (simp [srcP]; omega))))))) (by first | omega | (simp; done) | (simp; omega)) hb2; have hc2 := bxcell hb2; have hf2 := bxfrozen hb2; simp only [srcP_b] at hc2 hf2)
  obtain ⟨r', c', v', xs, rfl, hx1, hx2, ho2⟩ := hdg
  (have hh2 := Lib.hid (show w2.heap[w.heap.size]? = some (.cells #[.int .i64 0, .int .i64 0, .slice none 0 0] 41 (0, 0)) from (hb2.block (w.heap.size) (by first | omega | (simp; done) | (simp; omega) | (simp [srcP]; omega)) (by first | omega | (simp; done) | (simp; omega) | (simp [srcP]; omega))).trans (by repeat (first | (with_reducible exact hh1.out) | (with_reducible exact heap_alloc_new _ _) | (rw [heap_drew1]) | (rw [heap_drewN1]) | (rw [Below.heap_setCell _ _ _ _ (by first | omega | (simp; done) | (simp; omega) | (simp [srcP]; omega))]) | (rw [Below.heap_alloc _ _ _ (by first | omega | (simp; done) | (simp; omega) | (simp [srcP]; omega))])))))
  obtain ⟨g, cp, rfl, hg, hgw, -, -⟩ := ho2.row (by omega)
  have HI2 := Lib.hid (bxinv hB2 HI)
  have hs2 := hb2.size
  obtain ⟨N, hN⟩ : ∃ N, xs.length = N := ⟨_, rfl⟩
  rw [hN] at ho2 hx1 hx2 ⊢
  have HN := Lib.hid hN
  have HO2 := Lib.hid ho2
  have HB2 := Lib.hid hB2
  have HR2 := Lib.hid ((ho2.ri hN).alloc (Nat.le_refl _) (.cells #[.int .i64 r', .int .i64 c', .slice (some ⟨g, 0, none⟩) N cp] 41))
  have HGB := Lib.hid (heap_alloc_new w2 (.cells #[.int .i64 r', .int .i64 c', .slice (some ⟨g, 0, none⟩) N cp] 41))
  have HZB := Lib.hid (blk_alloc (u := .cells #[.int .i64 r', .int .i64 c', .slice (some ⟨g, 0, none⟩) N cp] 41) hh2.out (by omega))
  have HK := l16Known_any r' c' (some ⟨g, 0, none⟩) N cp xs (w2.alloc (.cells #[.int .i64 r', .int .i64 c', .slice (some ⟨g, 0, none⟩) N cp] 41)) w2.heap.size HR2.out (by simp) (by omega)
  clear hc2 hf2 hb2 hB2 ho2 hN hb1 hB1
  obtain ⟨y0, y1, y2, -⟩ := blk3 HGB.out
  cases hkn : (gridB r' c' xs && posB xs)
  · rw [hkn] at HK
    have HK := Lib.hid HK
    clear hkn
    go_wp2_with fail
    (go_at_call 66; with_reducible refine HK.out.mono ?_; rintro e3 w3 ⟨rfl, hb3⟩)
    have hs3 := hb3.size
    simp only [World.size_alloc] at hs3
    have HG3 := Lib.hid (blk_below HGB.out hb3 (by simp))
    have HZ3 := Lib.hid (blk_below HZB.out hb3 (by simp; omega))
    have HO3 := Lib.hid ((HO2.out.keep ((Below.refl _ _).alloc (Nat.le_refl _) _)).keep hb3)
    have HB3 := Lib.hid (HB2.out.trans (((BX.refl _ _ _).alloc (by omega) _).thenB (by simp; omega) hb3))
    clear hb3 y0 y1 y2
    obtain ⟨y0, y1, y2, -⟩ := blk3 HG3.out
    obtain ⟨z0, z1, z2, zf⟩ := blk3 HZ3.out
    obtain ⟨s0, s1, s2⟩ := res3 HZ3.out (.int .i64 r') (.int .i64 c') (.slice (some ⟨g, 0, none⟩) N cp)
    go_wp2_with fail
    (try simp only [Exit.inBlock, Exit.then]); refine bodyPost_ret (by simp [results, Try.results44, go_sem, s0, s1, s2]; try rfl) rfl ?_
    exact ⟨_, rfl, ⟨_, _, _, xs, rfl, by rw [HN.out]; omega, by rw [HN.out]; omega, ((((HO3.out.setLt (p := ⟨w.heap.size, 0, none⟩) hw1 _).setLt (p := ⟨w.heap.size, 1, none⟩) hw1 _).setLt (p := ⟨w.heap.size, 2, none⟩) hw1 _)).more (Nat.le_of_lt hw1)⟩, ((HB3.out.setCell (p := ⟨w.heap.size, 0, none⟩) (Nat.le_refl _) hbw _).setCell (p := ⟨w.heap.size, 1, none⟩) (Nat.le_refl _) hbw _).setCell (p := ⟨w.heap.size, 2, none⟩) (Nat.le_refl _) hbw _⟩
  rw [hkn] at HK
  have HK := Lib.hid HK
  clear hkn
  go_wp2_with fail
  (go_at_call 66; with_reducible refine HK.out.mono ?_; rintro e3 w3 ⟨rfl, hb3⟩)
  have hs3 := hb3.size
  simp only [World.size_alloc] at hs3
  have HG3 := Lib.hid (blk_below HGB.out hb3 (by simp))
  have HZ3 := Lib.hid (blk_below HZB.out hb3 (by simp; omega))
  have HO3 := Lib.hid ((HO2.out.keep ((Below.refl _ _).alloc (Nat.le_refl _) _)).keep hb3)
  have HB3 := Lib.hid (HB2.out.trans (((BX.refl _ _ _).alloc (by omega) _).thenB (by simp; omega) hb3))
  clear hb3 y0 y1 y2 HR2 HGB HZB HK
  have HI3 := Lib.hid (HB3.out.inv HI.out)
  have HK3 := Lib.hid (KB.nil HI3.out)
  have hwG : w.heap.size < w2.heap.size := by omega
  have hbG : b ≠ w2.heap.size := by omega
  have hb3 : b < w3.heap.size := by omega
  have HC := Lib.hid (fun (l : List (Nat × Obj)) (w' : World) (h : KB (srcP 97 b A n c bs B) w3 l w') => KB.three h HG3.out (Ne.symm hbG))
  have HRI := Lib.hid (fun (l : List (Nat × Obj)) (w' : World) (h : KB (srcP 97 b A n c bs B) w3 l w') => ((HO3.out.bx h.bx (show b < w1.heap.size by omega)).ri HN.out))
  go_upto_region 6 with fail
  go_cut [4, 5] (fun sa sb wx => ∃ (gr : Nat) (h v k : Int) (u : Value) (zs : List Int), sa = .pointer (some ⟨gr, 0, none⟩) ∧ sb = .int .i64 k ∧ Hid ((k = 0 → 1 ≤ zs.length ∧ zs.length ≤ 40000) ∧ RsP (srcP 97 b A n c bs B) w3 gr h v u zs wx))
  case first =>
    go_region_held3 (fun w' => w'.cell? ⟨w2.heap.size, 0, none⟩ = some (.int .i64 r') ∧ w'.cell? ⟨w2.heap.size, 1, none⟩ = some (.int .i64 c') ∧ w'.cell? ⟨w2.heap.size, 2, none⟩ = some (.slice (some ⟨g, 0, none⟩) N cp))
      (first | with_reducible exact HC.out _ _ HE8.out.kb | with_reducible exact HC.out _ _ HE8.out.kb.drew | with_reducible exact HC.out _ _ HK8.out | with_reducible exact HC.out _ _ HK8.out.drew | with_reducible exact HC.out _ _ (HK8.out.push #[.int .i64 0, .int .i64 0, .slice none 0 0] 28 rfl) | with_reducible exact HC.out _ _ (HK8.out.push #[.int .i64 0, .int .i64 0, .slice none 0 0] 28 rfl).drew | with_reducible exact HC.out _ _ (HK8.out.drew.push #[.int .i64 0, .int .i64 0, .slice none 0 0] 28 rfl) | with_reducible exact HC.out _ _ (HK8.out.drew.push #[.int .i64 0, .int .i64 0, .slice none 0 0] 28 rfl).drew | with_reducible exact HC.out _ _ HK7.out | with_reducible exact HC.out _ _ HK7.out.drew | with_reducible exact HC.out _ _ (HK7.out.push #[.int .i64 0, .int .i64 0, .slice none 0 0] 28 rfl) | with_reducible exact HC.out _ _ (HK7.out.push #[.int .i64 0, .int .i64 0, .slice none 0 0] 28 rfl).drew | with_reducible exact HC.out _ _ (HK7.out.drew.push #[.int .i64 0, .int .i64 0, .slice none 0 0] 28 rfl) | with_reducible exact HC.out _ _ (HK7.out.drew.push #[.int .i64 0, .int .i64 0, .slice none 0 0] 28 rfl).drew | with_reducible exact HC.out _ _ HK6.out | with_reducible exact HC.out _ _ HK6.out.drew | with_reducible exact HC.out _ _ (HK6.out.push #[.int .i64 0, .int .i64 0, .slice none 0 0] 28 rfl) | with_reducible exact HC.out _ _ (HK6.out.push #[.int .i64 0, .int .i64 0, .slice none 0 0] 28 rfl).drew | with_reducible exact HC.out _ _ (HK6.out.drew.push #[.int .i64 0, .int .i64 0, .slice none 0 0] 28 rfl) | with_reducible exact HC.out _ _ (HK6.out.drew.push #[.int .i64 0, .int .i64 0, .slice none 0 0] 28 rfl).drew | with_reducible exact HC.out _ _ HK5.out | with_reducible exact HC.out _ _ HK5.out.drew | with_reducible exact HC.out _ _ (HK5.out.push #[.int .i64 0, .int .i64 0, .slice none 0 0] 28 rfl) | with_reducible exact HC.out _ _ (HK5.out.push #[.int .i64 0, .int .i64 0, .slice none 0 0] 28 rfl).drew | with_reducible exact HC.out _ _ (HK5.out.drew.push #[.int .i64 0, .int .i64 0, .slice none 0 0] 28 rfl) | with_reducible exact HC.out _ _ (HK5.out.drew.push #[.int .i64 0, .int .i64 0, .slice none 0 0] 28 rfl).drew | with_reducible exact HC.out _ _ HK3.out | with_reducible exact HC.out _ _ HK3.out.drew | with_reducible exact HC.out _ _ (HK3.out.push #[.int .i64 0, .int .i64 0, .slice none 0 0] 28 rfl) | with_reducible exact HC.out _ _ (HK3.out.push #[.int .i64 0, .int .i64 0, .slice none 0 0] 28 rfl).drew | with_reducible exact HC.out _ _ (HK3.out.drew.push #[.int .i64 0, .int .i64 0, .slice none 0 0] 28 rfl) | with_reducible exact HC.out _ _ (HK3.out.drew.push #[.int .i64 0, .int .i64 0, .slice none 0 0] 28 rfl).drew | go_keep)
      (first | ((go_at_call 67); (with_reducible refine (pg_draw r' c' (some ⟨g, 0, none⟩) N cp xs _ _ _ _ _ ?_ (Nat.le_refl _) (by omega)).mono ?_); (focus (first | exact HRI.out _ _ HK7.out | exact HRI.out _ _ HK7.out.drew | exact HRI.out _ _ (HK7.out.push #[.int .i64 0, .int .i64 0, .slice none 0 0] 28 rfl) | exact HRI.out _ _ (HK7.out.push #[.int .i64 0, .int .i64 0, .slice none 0 0] 28 rfl).drew | exact HRI.out _ _ (HK7.out.drew.push #[.int .i64 0, .int .i64 0, .slice none 0 0] 28 rfl) | exact HRI.out _ _ (HK7.out.drew.push #[.int .i64 0, .int .i64 0, .slice none 0 0] 28 rfl).drew)); (rintro e8 w8 ⟨h8, v8, k8, u8, zs, rfl, hkl, ho8, hb8⟩); (obtain ⟨A8, c8, rfl, -⟩ := ho8.shape); (first | have HK8 := Lib.hid (HK7.out.below hb8) | have HK8 := Lib.hid (HK7.out.drew.below hb8) | have HK8 := Lib.hid ((HK7.out.push #[.int .i64 0, .int .i64 0, .slice none 0 0] 28 rfl).below hb8) | have HK8 := Lib.hid ((HK7.out.push #[.int .i64 0, .int .i64 0, .slice none 0 0] 28 rfl).drew.below hb8) | have HK8 := Lib.hid ((HK7.out.drew.push #[.int .i64 0, .int .i64 0, .slice none 0 0] 28 rfl).below hb8) | have HK8 := Lib.hid ((HK7.out.drew.push #[.int .i64 0, .int .i64 0, .slice none 0 0] 28 rfl).drew.below hb8)); (have hq8 := HK8.out.bx.size); clear hb8;       (first | (have hgg := HK8.out.get List.mem_cons_self; have HE8 := Lib.hid (RsP.early (h := h8) (v := v8) HK8.out ho8 (by first | omega | (simp; done) | (simp; omega)) (by first | omega | (simp; done) | (simp; omega)) (by first | omega | (simp; done) | (simp; omega))); obtain ⟨gg0, gg1, gg2, ggf⟩ := blk3 hgg) | (have HE8 := Lib.hid (RsP.late (h := h8) (v := v8) HK8.out ho8 (by first | omega | (simp; done) | (simp; omega)))))) | ((go_at_call 62); (with_reducible refine (draw_any b A n c bs B 3 _ ?_ (by omega)).mono ?_); (focus (first | exact HK6.out.inv | exact HK6.out.drew.inv | exact (HK6.out.push #[.int .i64 0, .int .i64 0, .slice none 0 0] 28 rfl).inv | exact (HK6.out.push #[.int .i64 0, .int .i64 0, .slice none 0 0] 28 rfl).drew.inv | exact (HK6.out.drew.push #[.int .i64 0, .int .i64 0, .slice none 0 0] 28 rfl).inv | exact (HK6.out.drew.push #[.int .i64 0, .int .i64 0, .slice none 0 0] 28 rfl).drew.inv)); (rintro e7 w7 ⟨u7, rfl, ⟨r7, rfl, hr7a, hr7b⟩, hb7⟩); (first | have HK7 := Lib.hid (HK6.out.step hb7) | have HK7 := Lib.hid (HK6.out.drew.step hb7) | have HK7 := Lib.hid ((HK6.out.push #[.int .i64 0, .int .i64 0, .slice none 0 0] 28 rfl).step hb7) | have HK7 := Lib.hid ((HK6.out.push #[.int .i64 0, .int .i64 0, .slice none 0 0] 28 rfl).drew.step hb7) | have HK7 := Lib.hid ((HK6.out.drew.push #[.int .i64 0, .int .i64 0, .slice none 0 0] 28 rfl).step hb7) | have HK7 := Lib.hid ((HK6.out.drew.push #[.int .i64 0, .int .i64 0, .slice none 0 0] 28 rfl).drew.step hb7)); (have hq7 := HK7.out.bx.size); (try have hlt7 := HK7.out.lt List.mem_cons_self); clear hb7) | ((go_at_call 62); (with_reducible refine (draw_any b A n c bs B 3 _ ?_ (by omega)).mono ?_); (focus (first | exact HK5.out.inv | exact HK5.out.drew.inv | exact (HK5.out.push #[.int .i64 0, .int .i64 0, .slice none 0 0] 28 rfl).inv | exact (HK5.out.push #[.int .i64 0, .int .i64 0, .slice none 0 0] 28 rfl).drew.inv | exact (HK5.out.drew.push #[.int .i64 0, .int .i64 0, .slice none 0 0] 28 rfl).inv | exact (HK5.out.drew.push #[.int .i64 0, .int .i64 0, .slice none 0 0] 28 rfl).drew.inv)); (rintro e6 w6 ⟨u6, rfl, ⟨r6, rfl, hr6a, hr6b⟩, hb6⟩); (first | have HK6 := Lib.hid (HK5.out.step hb6) | have HK6 := Lib.hid (HK5.out.drew.step hb6) | have HK6 := Lib.hid ((HK5.out.push #[.int .i64 0, .int .i64 0, .slice none 0 0] 28 rfl).step hb6) | have HK6 := Lib.hid ((HK5.out.push #[.int .i64 0, .int .i64 0, .slice none 0 0] 28 rfl).drew.step hb6) | have HK6 := Lib.hid ((HK5.out.drew.push #[.int .i64 0, .int .i64 0, .slice none 0 0] 28 rfl).step hb6) | have HK6 := Lib.hid ((HK5.out.drew.push #[.int .i64 0, .int .i64 0, .slice none 0 0] 28 rfl).drew.step hb6)); (have hq6 := HK6.out.bx.size); (try have hlt6 := HK6.out.lt List.mem_cons_self); clear hb6) | ((go_at_call 62); (with_reducible refine (draw_any b A n c bs B 3 _ ?_ (by omega)).mono ?_); (focus (first | exact HK3.out.inv | exact HK3.out.drew.inv | exact (HK3.out.push #[.int .i64 0, .int .i64 0, .slice none 0 0] 28 rfl).inv | exact (HK3.out.push #[.int .i64 0, .int .i64 0, .slice none 0 0] 28 rfl).drew.inv | exact (HK3.out.drew.push #[.int .i64 0, .int .i64 0, .slice none 0 0] 28 rfl).inv | exact (HK3.out.drew.push #[.int .i64 0, .int .i64 0, .slice none 0 0] 28 rfl).drew.inv)); (rintro e5 w5 ⟨u5, rfl, ⟨r5, rfl, hr5a, hr5b⟩, hb5⟩); (first | have HK5 := Lib.hid (HK3.out.step hb5) | have HK5 := Lib.hid (HK3.out.drew.step hb5) | have HK5 := Lib.hid ((HK3.out.push #[.int .i64 0, .int .i64 0, .slice none 0 0] 28 rfl).step hb5) | have HK5 := Lib.hid ((HK3.out.push #[.int .i64 0, .int .i64 0, .slice none 0 0] 28 rfl).drew.step hb5) | have HK5 := Lib.hid ((HK3.out.drew.push #[.int .i64 0, .int .i64 0, .slice none 0 0] 28 rfl).step hb5) | have HK5 := Lib.hid ((HK3.out.drew.push #[.int .i64 0, .int .i64 0, .slice none 0 0] 28 rfl).drew.step hb5)); (have hq5 := HK5.out.bx.size); (try have hlt5 := HK5.out.lt List.mem_cons_self); clear hb5))
    all_goals
      go_wp2_with fail
      go_meet
      case rel => exact ⟨_, _, _, _, _, _, rfl, rfl, Lib.hid ⟨hkl, HE8.out⟩⟩
  obtain ⟨gr, h, v, k, u, zs, rfl, rfl, hcut⟩ := hcut
  have HZL := Lib.hid hcut.out.1
  have HR := Lib.hid hcut.out.2
  have hsx := HR.out.kb.bx.size
  have HGx := Lib.hid ((HR.out.kb.bx.block w2.heap.size (by omega) (Ne.symm hbG)).trans HG3.out)
  have HZx := Lib.hid ((HR.out.kb.bx.block w.heap.size (by omega) (by simp; omega)).trans HZ3.out)
  have HOx := Lib.hid (HO3.out.bx HR.out.kb.bx (show b < w1.heap.size by omega))
  have HBx := Lib.hid (HB3.out.trans (HR.out.kb.bx.mono (by omega)))
  clear hcut HG3 HZ3 HO3 HB3 HI3 HK3 HC HRI
  by_cases hk0 : k = 0
  · subst hk0
    have hzl := HZL.out rfl
    obtain ⟨gz, cz, hu, hgz, hgzw, -, -⟩ := HR.out.own.row (by omega)
    subst hu
    obtain ⟨M, hM⟩ : ∃ M, zs.length = M := ⟨_, rfl⟩
    rw [hM] at HR hzl
    have HM := Lib.hid hM
    clear hM HZL
    have HRz := Lib.hid (HR.out.own.ri HM.out)
    obtain ⟨q0, q1, q2, -⟩ := blk3 (HR.out.kb.get List.mem_cons_self)
    have HBI := Lib.hid (l22Binary_any h v 128 (some ⟨gz, 0, none⟩) M cz zs wc HRz.out (by omega))
    have HIx := Lib.hid HR.out.kb.inv
    have hbx : b < wc.heap.size := by omega
    have HBL := Lib.hid (show (binL 128 zs).length = M by rw [binL_len]; exact HM.out)
    clear HRz
    go_wp2_with fail
    (go_at_call 68; with_reducible refine HBI.out.mono ?_; rintro e9 w9 ⟨u9, rfl, ho9, hb9⟩)
    have hs9 := hb9.size
    obtain ⟨g9, c9, hu9, hg9, hg9w, -, -⟩ := ho9.row (by rw [HBL.out]; omega)
    subst hu9
    rw [HBL.out] at ho9 ⊢
    have HO9 := Lib.hid ho9
    have HI9 := Lib.hid ((srcP 97 b A n c bs B).st (((Below.refl wc.heap.size wc).trans hb9).mono (by simp; omega)) HIx.out)
    have HI10 := Lib.hid ((srcP 97 b A n c bs B).st ((Below.refl (b + 1) w9).alloc (by omega) (.cells #[.int .i64 h, .int .i64 v, .slice (some ⟨g9, 0, none⟩) M c9] 41)) HI9.out)
    have HZ9 := Lib.hid (blk_alloc (u := .cells #[.int .i64 h, .int .i64 v, .slice (some ⟨g9, 0, none⟩) M c9] 41) (blk_below HZx.out hb9 (by omega)) (by omega))
    have HN9 := Lib.hid (heap_alloc_new w9 (.cells #[.int .i64 h, .int .i64 v, .slice (some ⟨g9, 0, none⟩) M c9] 41))
    have HB9 := Lib.hid (((HBx.out.thenB (by omega) hb9).alloc (by omega) (.cells #[.int .i64 h, .int .i64 v, .slice (some ⟨g9, 0, none⟩) M c9] 41)))
    have HHT := Lib.hid (l17Hit_any b A n c bs B g9 c9 M wc.heap.size (binL 128 zs) (w9.alloc (.cells #[.int .i64 h, .int .i64 v, .slice (some ⟨g9, 0, none⟩) M c9] 41)) HI10.out (HO9.out.keep ((Below.refl _ _).alloc (Nat.le_refl _) _)) HBL.out ⟨by omega, by omega⟩ hbx (by simp; omega) hg9)
    clear ho9 hb9 q0 q1 q2
    obtain ⟨y0, y1, y2, -⟩ := blk3 HN9.out
    go_wp2_with fail
    (go_at_call 69; with_reducible refine HHT.out.mono ?_; rintro e10 w10 ⟨rfl, ⟨zz, hzz, hoz⟩, hht⟩)
    have HN10 := Lib.hid ((hht.blk w9.heap.size (by simp) (by simp; omega) (by omega)).trans HN9.out)
    have HZ10 := Lib.hid ((hht.blk w.heap.size (by simp; omega) (by simp; omega) (by omega)).trans HZ9.out)
    have HO10 := Lib.hid hoz
    have HZZ := Lib.hid hzz
    have HB10 := Lib.hid (HB9.out.trans (hht.bx.mono (by omega)))
    clear hoz hzz hht y0 y1 y2
    obtain ⟨y0, y1, y2, -⟩ := blk3 HN10.out
    obtain ⟨z0, z1, z2, zf⟩ := blk3 HZ10.out
    obtain ⟨s0, s1, s2⟩ := res3 HZ10.out (.int .i64 h) (.int .i64 v) (.slice (some ⟨g9, 0, none⟩) M c9)
    have hwx : w.heap.size < wc.heap.size := by omega
    go_wp2_with fail
    (try simp only [Exit.inBlock, Exit.then]); refine bodyPost_ret (by simp [results, Try.results44, go_sem, s0, s1, s2]; try rfl) rfl ?_
    exact ⟨_, rfl, ⟨_, _, _, zz, rfl, by rw [HZZ.out]; omega, by rw [HZZ.out]; omega, ((((HO10.out.setLt (p := ⟨w.heap.size, 0, none⟩) hwx _).setLt (p := ⟨w.heap.size, 1, none⟩) hwx _).setLt (p := ⟨w.heap.size, 2, none⟩) hwx _)).more (Nat.le_of_lt hwx)⟩, ((HB10.out.setCell (p := ⟨w.heap.size, 0, none⟩) (Nat.le_refl _) hbw _).setCell (p := ⟨w.heap.size, 1, none⟩) (Nat.le_refl _) hbw _).setCell (p := ⟨w.heap.size, 2, none⟩) (Nat.le_refl _) hbw _⟩
  · have hk0' : (k == 0) = false := by simpa using hk0
    obtain ⟨y0, y1, y2, -⟩ := blk3 HGx.out
    obtain ⟨z0, z1, z2, zf⟩ := blk3 HZx.out
    obtain ⟨s0, s1, s2⟩ := res3 HZx.out (.int .i64 r') (.int .i64 c') (.slice (some ⟨g, 0, none⟩) N cp)
    go_wp2_with fail
    (try simp only [Exit.inBlock, Exit.then]); refine bodyPost_ret (by simp [results, Try.results44, go_sem, s0, s1, s2]; try rfl) rfl ?_
    exact ⟨_, rfl, ⟨_, _, _, xs, rfl, by rw [HN.out]; omega, by rw [HN.out]; omega, ((((HOx.out.setLt (p := ⟨w.heap.size, 0, none⟩) hw1 _).setLt (p := ⟨w.heap.size, 1, none⟩) hw1 _).setLt (p := ⟨w.heap.size, 2, none⟩) hw1 _)).more (Nat.le_of_lt hw1)⟩, ((HBx.out.setCell (p := ⟨w.heap.size, 0, none⟩) (Nat.le_refl _) hbw _).setCell (p := ⟨w.heap.size, 1, none⟩) (Nat.le_refl _) hbw _).setCell (p := ⟨w.heap.size, 2, none⟩) (Nat.le_refl _) hbw _⟩
set_option maxHeartbeats 2000000 in
theorem DrawFindersOf_any (A : Option Addr) (n c : Nat) (bs : List Int) (B : Nat) (w0 : World) (hb : RB w0 B A n bs) (hB0 : B ≤ w0.heap.size) (hn : n ≤ 4096) :
    Calls Try.prog 19 #[.slice A n c] w0 fun e w' => ∃ u, e = .returned u ∧ DW w' w0.heap.size u ∧ Below w0.heap.size w0 w' := by
  have HRB := Lib.hid hb
  clear hb
  go_enter Try.func19, Try.ntmps19
  go_wp2_with fail
  (go_at_call 37; go_call (l01From_any A n c bs _ B (HRB.out.below ((Below.refl B w0).alloc hB0 _)) (by first | (simp; done) | (simp; omega)) hn) as e w ⟨rfl, hs, hb0⟩)
  have hI : (srcP 97 (w0.heap.size + 1) A n c bs B).I w := ⟨by simpa using hs, (HRB.out.below ((Below.refl B w0).alloc hB0 _)).below (hb0.mono (by first | (simp; done) | (simp; omega))), by omega, hn⟩
  have HZ : Hid (w.heap[w0.heap.size]? = some (.cells #[.int .i64 0, .int .i64 0, .slice none 0 0] 41 (0, 0))) := Lib.hid (blk_below (heap_alloc_new _ _) hb0 (by simp))
  have HB0 : Hid (Below w0.heap.size w0 w) := Lib.hid (((Below.refl _ _).alloc (Nat.le_refl _) _).trans (hb0.mono (by first | (simp; done) | (simp; omega))))
  have hbw := srcP_lt hI
  have HI := Lib.hid hI
  simp only [World.size_alloc]
  clear hI hs hb0
  go_wp2_with fail
  go_at_call 44
  with_reducible refine (l23Draw_any (w0.heap.size + 1) A n c bs B _ HI.out).mono ?_
  rintro e1 w1 ⟨u1, rfl, hdr, hb1⟩
  obtain ⟨r, q, v, xs, rfl, hx1, hx2, ho⟩ := hdr
  obtain ⟨A1, c1, rfl, -⟩ := ho.shape
  obtain ⟨N, hN⟩ : ∃ N, xs.length = N := ⟨_, rfl⟩
  rw [hN] at ho ⊢
  have HO := Lib.hid ho
  have HZ1 := Lib.hid ((hb1.block w0.heap.size (by omega) (by simp)).trans HZ.out)
  have HBF : Hid (Below w0.heap.size w0 w1) := Lib.hid (HB0.out.trans ((hb1.mono (by omega)).below (by simp)))
  have HX := Lib.hid (And.intro hx1 hx2)
  obtain ⟨z0, z1, z2, zf⟩ := blk3 HZ1.out
  obtain ⟨s0, s1, s2⟩ := res3 HZ1.out (.int .i64 r) (.int .i64 q) (.slice A1 N c1)
  have hlt : w0.heap.size < w.heap.size := by omega
  clear ho hb1 hN hx1 hx2
  go_wp2_with fail
  (try simp only [Exit.inBlock, Exit.then]); refine bodyPost_ret (by simp [results, Try.results19, go_sem, s0, s1, s2]; try rfl) rfl ?_
  exact ⟨_, rfl, ⟨_, _, _, xs, rfl, HX.out.1, HX.out.2, ((((HO.out.setLt (p := ⟨w0.heap.size, 0, none⟩) hlt _).setLt (p := ⟨w0.heap.size, 1, none⟩) hlt _).setLt (p := ⟨w0.heap.size, 2, none⟩) hlt _)).more (Nat.le_of_lt hlt)⟩, ((HBF.out.setCell (p := ⟨w0.heap.size, 0, none⟩) (Nat.le_refl _) _).setCell (p := ⟨w0.heap.size, 1, none⟩) (Nat.le_refl _) _).setCell (p := ⟨w0.heap.size, 2, none⟩) (Nat.le_refl _) _⟩
end Go.Proofs.Ytkipaefhnmfebaa