/-
  The row FnLimits: a raster of two grey values is divided between both by every limit, for every raster that a code draws; no condition.
-/
import Derived.Test.YtkipaefhnmfebaaArgB
import Derived.Test.YtkipaefhnmfebaaDice
import Derived.Test.YtkipaefhnmfebaaDl
import Derived.Test.YtkipaefhnmfebaaLim
import Derived.Test.YtkipaefhnmfebaaC22D
import Derived.Deep.RegionHeldLaw
import Derived.Deep.AppendLies
import Derived.Deep.DeepCutAuto
namespace Go.Proofs.Ytkipaefhnmfebaa
set_option linter.unusedSimpArgs false
open Go.ChangeShapes Go.WideShapes Go.ChangeAt Go.RowKit

theorem gen_worldL {P Q : World → Prop} {W : World} (h : Q W) (k : ∀ W', Q W' → P W') : P W := k W h
/-- A raster in a box of its own, and all that lay before. -/
structure LmP (w : World) (g : Nat) (o : Obj) (A : Option Addr) (n : Nat) (xs : List Int) (W : World) : Prop where
  lo : w.heap.size ≤ g
  sz : g < W.heap.size
  bl : Below w.heap.size w W
  k : W.heap[g]? = some o
  ra : RI W g A n xs
theorem LmP.below {w : World} {g : Nat} {o : Obj} {A : Option Addr} {n : Nat} {xs : List Int} {W W' : World} {B : Nat} (h : LmP w g o A n xs W) (hb : Below B W W') (hB : g < B) (_hB2 : B ≤ W.heap.size) : LmP w g o A n xs W' := by
  have hs := hb.size
  exact ⟨h.lo, by have := h.sz; omega, h.bl.trans (hb.mono (by have := h.lo; omega)), blk_below h.k hb hB, h.ra.below (hb.mono (by omega))⟩
theorem Own.setNe {w : World} {B gg n c : Nat} {xs : List Int} (h : Own w B (.slice (some ⟨gg, 0, none⟩) n c) xs) {p : Addr} (hp : gg ≠ p.block) (u : Value) : Own (w.setCell p u) B (.slice (some ⟨gg, 0, none⟩) n c) xs := by
  refine ⟨h.1, ?_⟩
  rcases h.2 with ⟨h', _⟩ | ⟨g, cap, cur, e, hB, hg, hr⟩
  · cases h'
  · simp only [Value.slice.injEq, Option.some.injEq, Addr.mk.injEq, and_true] at e
    obtain ⟨rfl, rfl, rfl⟩ := e
    exact .inr ⟨_, _, cur, rfl, hB, (Below.heap_setCell _ _ _ _ hp).trans hg, hr⟩
/-- A copied raster whose pixels are its own. -/
structure LqP (w : World) (g gg cap : Nat) (r q : Int) (N : Nat) (ys : List Int) (W : World) : Prop where
  bl : Below w.heap.size w W
  l0 : w.heap.size ≤ g
  l1 : g < W.heap.size
  ne : gg ≠ g
  k : W.heap[g]? = some (.cells #[.int .i64 r, .int .i64 q, .slice (some ⟨gg, 0, none⟩) N cap] 28 (0, 0))
  own : Own W w.heap.size (.slice (some ⟨gg, 0, none⟩) N cap) ys
section
variable {w wa W : World} {g gg cap N : Nat} {r q : Int} {ys : List Int}
theorem LqP.last (hb : Below w.heap.size w wa) (ho : Own wa w.heap.size (.slice (some ⟨gg, 0, none⟩) N cap) ys) : LqP w wa.heap.size gg cap r q N ys (wa.alloc (.cells #[.int .i64 r, .int .i64 q, .slice (some ⟨gg, 0, none⟩) N cap] 28)) :=
  ⟨hb.alloc hb.size _, hb.size, by simp, fun e => by have := (World.ownsRow.lt ho gg rfl).2; omega, heap_alloc_new _ _, ho.keep ((Below.refl _ _).alloc (Nat.le_refl _) _)⟩
theorem LqP.early {a b c : Value} (hb : Below w.heap.size w wa) (ho : Own wa w.heap.size (.slice (some ⟨gg, 0, none⟩) N cap) ys) (hk : wa.heap[g]? = some (.cells #[a, b, c] 28 (0, 0))) (hne : gg ≠ g) (h0 : w.heap.size ≤ g) :
    LqP w g gg cap r q N ys (((wa.setCell ⟨g, 0, none⟩ (.int .i64 r)).setCell ⟨g, 1, none⟩ (.int .i64 q)).setCell ⟨g, 2, none⟩ (.slice (some ⟨gg, 0, none⟩) N cap)) :=
  ⟨((hb.setCell h0 _).setCell h0 _).setCell h0 _, h0, by simpa using lt_of_block hk, hne, blk3_2 (blk3_1 (blk3_0 hk)), ((ho.setNe hne _).setNe hne _).setNe hne _⟩
theorem LqP.set (h : LqP w g gg cap r q N ys W) (hl : ys.length = N) (k : Nat) (u : Int) : LqP w g gg cap r q N (ys.set k u) (W.setCell ⟨gg, k, none⟩ (.int .i64 u)) :=
  ⟨h.bl.setCell (World.ownsRow.lt h.own gg rfl).1 _, h.l0, by simpa using h.l1, h.ne, blk_other h.k h.ne.symm, Own.setn hl h.own⟩
end
theorem ri_news {W w' : World} {B bb n : Nat} {xs : List Int} (hr : RI W B (some ⟨bb, 0, none⟩) n xs) (hb : Below B W w') : ∀ j u, (xs.map (Value.int .i64))[j]? = some u → w'.cell? ((⟨bb, 0, none⟩ : Addr).add j) = some u := by
  intro j u hj
  have hjl : j < xs.length := by
    rcases Nat.lt_or_ge j xs.length with h' | h'
    · exact h'
    · rw [List.getElem?_eq_none (by simpa using h')] at hj; cases hj
  rw [nth_map xs j hjl] at hj
  cases hj
  obtain ⟨b, o, e, -, hc⟩ := (hr.below hb).cells (by have := hr.len; omega)
  simp only [Option.some.injEq, Addr.mk.injEq, and_true] at e
  obtain ⟨rfl, rfl⟩ := e
  have h := hc j (by have := hr.len; omega)
  rw [Nat.zero_add] at h
  have hadd : (⟨bb, 0, none⟩ : Addr).add j = ⟨bb, j, none⟩ := by unfold Addr.add; split <;> simp_all
  rw [hadd]
  exact h
theorem own_empty (w : World) (B : Nat) (hB : B ≤ w.heap.size) : (w.alloc (.cells #[] 2)).ownsRow B 2 1 (.slice (some ⟨w.heap.size, 0, none⟩) 0 0) 0 [] := by
  have := World.ownsRow_made (e := 2) (size := 1) (base := B) w #[] 0 hB (by unfold maxLen; omega) rfl
  simpa using this
theorem own_emptyA (w : World) (B b : Nat) (hB : B ≤ w.heap.size) (hb : w.heap.size = b) : (w.alloc (.cells #[] 2)).ownsRow B 2 1 (.slice (some ⟨b, 0, none⟩) 0 0) 0 [] := hb ▸ own_empty w B hB
theorem blk3o {w : World} {b t p : Nat} {x y z u v q : Value} (h : w.heap[b]? = some (.cells #[x, y, z] t (0, 0))) (hp : b ≠ p) : (((w.setCell ⟨p, 0, none⟩ u).setCell ⟨p, 1, none⟩ v).setCell ⟨p, 2, none⟩ q).cell? ⟨b, 0, none⟩ = some x ∧ (((w.setCell ⟨p, 0, none⟩ u).setCell ⟨p, 1, none⟩ v).setCell ⟨p, 2, none⟩ q).cell? ⟨b, 1, none⟩ = some y ∧ (((w.setCell ⟨p, 0, none⟩ u).setCell ⟨p, 1, none⟩ v).setCell ⟨p, 2, none⟩ q).cell? ⟨b, 2, none⟩ = some z := by
  obtain ⟨h0, h1, h2, -⟩ := blk3 (blk_other (k := 2) (u := q) (blk_other (k := 1) (u := v) (blk_other (k := 0) (u := u) h hp) hp) hp)
  exact ⟨h0, h1, h2⟩
theorem slC_0 {r q : Int} {xs : List Int} (h : slC r q xs = 0) : rasB r q xs = true := by
  unfold slC at h
  cases e : rasB r q xs
  · rw [e] at h; simp at h
  · rfl
/-- What the limits give on the list that goes between two greys. -/
theorem lim_good {r q : Int} {xs : List Int} {a b : Int} {N : Nat} (h : rasB r q xs = true) (hN : xs.length = N) (ha : 0 ≤ a) (hab : a < b) (hb : b ≤ 255) (h2 : 2 ≤ N) :
    slC r q (altL a b N) = 0 ∧ slV r q (altL a b N) = (a + b + 1) / 2 ∧ dkC r q (altL a b N) ((a + b + 1) / 2) = 0 ∧ dkV r q (altL a b N) ((a + b + 1) / 2) = ((N + 1) / 2 : Nat) ∧ ctV r q (altL a b N) = b - a := by
  have hr := ras_alt (ys := altL a b N) h (by rw [altL_len, hN]) (altL_alt a b N) ha hab hb
  have hl := altL_len a b N
  obtain ⟨h1, h2', h3, h4, h5⟩ := alt_split (altL_alt a b N) ha hab (by omega)
  rw [hl] at h3 h4 h5
  have hi : inR ((a + b + 1) / 2) 0 256 = true := inR_mk (by omega) (by omega)
  refine ⟨?_, ?_, ?_, ?_, ?_⟩
  · unfold slC; rw [hr]; rfl
  · unfold slV; rw [hr]; exact h2'
  · unfold dkC; rw [hr, hi]; rfl
  · unfold dkV; rw [hr, hi, hl, h3]; rfl
  · unfold ctV; rw [hr, hl, h4, h5]; rfl
theorem alt_mix {xs : List Int} {a b : Int} {k N : Nat} (hN : xs.length = N) (hk : k < N) : ((altL a b N).take k ++ xs.drop k).set k (if k % 2 = 0 then a else b) = (altL a b N).take (k + 1) ++ xs.drop (k + 1) := by
  have := set_mix (xs := xs) (ys := altL a b N) (k := k) (by rw [altL_len, hN]) (by omega)
  rwa [altL_nth hk] at this
set_option maxRecDepth 20000 in
set_option maxHeartbeats 8000000 in
theorem lawFnLimits (A : Option Addr) (n c : Nat) (bs : List Int) (w : World) (hr : RB w w.heap.size A n bs) :
    Calls Try.prog 4 #[.slice A n c] w fun e' w' => e' = .returned (.bool true) ∧ Below w.heap.size w w' := by
  have HR := Lib.hid hr
  clear hr
  by_cases hbig : 4096 < n
  · have hbd : decide (4096 < n) = true := decide_eq_true hbig
    go_enter Try.func4, Try.ntmps4
    go_wp2_with (go_at_call 11; go_call (big_any _ _ _ _) as e0 w0 ⟨rfl, hb0⟩; obtain ⟨hc0, hf0⟩ := bcell hb0; have hB0 : Below w.heap.size w w0 := (below_then (by first | (go_grown; done) | (repeat (first | (with_reducible assumption) | (with_reducible exact Below.refl _ _) | (with_reducible refine below_drewN' ?_ _) | (with_reducible refine Below.drew ?_) | ((with_reducible refine Below.alloc ?_ ?_ _); rotate_left; focus (first | (simp; done) | (simp; omega) | omega)) | ((with_reducible refine Below.setCell ?_ ?_ _); rotate_left; focus (first | (simp; done) | (simp; omega) | omega))))) (by first | omega | (simp; done) | (simp; omega)) hb0))
    go_ret
    exact ⟨rfl, by (repeat (first | (with_reducible assumption) | (with_reducible exact Below.refl _ _) | (with_reducible refine below_drewN' ?_ _) | (with_reducible refine Below.drew ?_) | ((with_reducible refine Below.alloc ?_ ?_ _); rotate_left; focus (first | (simp; done) | (simp; omega) | omega)) | ((with_reducible refine Below.setCell ?_ ?_ _); rotate_left; focus (first | (simp; done) | (simp; omega) | omega))))⟩
  have hbd : decide (4096 < n) = false := decide_eq_false hbig
  obtain ⟨i0, hi⟩ := info_own' info_i64s
  have HI := Lib.hid (And.intro i0.bytes.le_refl hi)
  clear hi
  have HD := Lib.hid (fun (w' : World) (hb : Below w.heap.size w w') => DrawSplitLimit_any A n c bs w.heap.size w' (HR.out.below hb) hb.size (by omega))
  go_enter Try.func4, Try.ntmps4
  go_wp2_with first | (go_at_call 11; go_call (big_any _ _ _ _) as e0 w0 ⟨rfl, hb0⟩; obtain ⟨hc0, hf0⟩ := bcell hb0; have hB0 : Below w.heap.size w w0 := (below_then (by first | (go_grown; done) | (repeat (first | (with_reducible assumption) | (with_reducible exact Below.refl _ _) | (with_reducible refine below_drewN' ?_ _) | (with_reducible refine Below.drew ?_) | ((with_reducible refine Below.alloc ?_ ?_ _); rotate_left; focus (first | (simp; done) | (simp; omega) | omega)) | ((with_reducible refine Below.setCell ?_ ?_ _); rotate_left; focus (first | (simp; done) | (simp; omega) | omega))))) (by first | omega | (simp; done) | (simp; omega)) hb0))
  have hw0 := hB0.size
  (go_at_call 12; go_call (HD.out _ hB0) as e1 w1 ⟨u1, rfl, ⟨r, q, v1, xs, rfl, hx1, hx2, ho1⟩, hb1⟩; obtain ⟨hc1, hf1⟩ := bcell hb1; have hB1 : Below w.heap.size w w1 := (below_then (by first | (go_grown; done) | (repeat (first | (with_reducible assumption) | (with_reducible exact Below.refl _ _) | (with_reducible refine below_drewN' ?_ _) | (with_reducible refine Below.drew ?_) | ((with_reducible refine Below.alloc ?_ ?_ _); rotate_left; focus (first | (simp; done) | (simp; omega) | omega)) | ((with_reducible refine Below.setCell ?_ ?_ _); rotate_left; focus (first | (simp; done) | (simp; omega) | omega))))) (by first | omega | (simp; done) | (simp; omega)) hb1))
  obtain ⟨bb, c1, rfl, hbb0, hbb1, -, -⟩ := ho1.row (by omega)
  obtain ⟨A1, c1', e1, hri⟩ := ho1.shape
  simp only [Value.slice.injEq] at e1
  obtain ⟨rfl, -, rfl⟩ := e1
  obtain ⟨N, hN⟩ : ∃ N, xs.length = N := ⟨_, rfl⟩
  rw [hN] at hri hx1 hx2 ⊢
  have HN := Lib.hid hN
  have HRI := Lib.hid hri
  have HB1 := Lib.hid hB1
  clear ho1 hN hb0 hB0 hc0 hf0 hb1 hB1 hc1 hf1 hri hbb0
  go_upto_region 4 with fail
  obtain ⟨g, hg⟩ : ∃ x, w1.heap.size = x := ⟨_, rfl⟩
  have hgl : bb < g := by omega
  refine gen_worldL (P := fun W' => Code.wp _ _ _ _ W') (Q := fun W' => LmP w g (.cells #[.int .i64 r, .int .i64 q, .slice (some ⟨bb, 0, none⟩) N c1] 28 (0, 0)) (some ⟨bb, 0, none⟩) N xs W') ?_ ?_
  · subst hg
    exact ⟨HB1.out.size, by simp, HB1.out.alloc HB1.out.size _, heap_alloc_new _ _, HRI.out.alloc (Nat.le_refl _) _⟩
  intro w2 hp2
  have HP2 := Lib.hid hp2
  rw [hg]
  clear hp2 HRI HB1 hg hbb1
  have HS1 := Lib.hid (fun (W : World) (h : LmP w g (.cells #[.int .i64 r, .int .i64 q, .slice (some ⟨bb, 0, none⟩) N c1] 28 (0, 0)) (some ⟨bb, 0, none⟩) N xs W) => SplitLimit_any r q _ N c1 xs W g h.ra (Nat.le_of_lt h.sz) (by omega))
  have HS2 := Lib.hid (fun (W : World) (h : LmP w g (.cells #[.int .i64 r, .int .i64 q, .slice (some ⟨bb, 0, none⟩) N c1] 28 (0, 0)) (some ⟨bb, 0, none⟩) N xs W) => sSplitLimit_any r q _ N c1 xs W g h.ra (Nat.le_of_lt h.sz) (by omega))
  have HS3 := Lib.hid (fun (W : World) (h : LmP w g (.cells #[.int .i64 r, .int .i64 q, .slice (some ⟨bb, 0, none⟩) N c1] 28 (0, 0)) (some ⟨bb, 0, none⟩) N xs W) => RangeLimit_any r q _ N c1 xs W g h.ra (Nat.le_of_lt h.sz) (by omega))
  have HS4 := Lib.hid (fun (W : World) (h : LmP w g (.cells #[.int .i64 r, .int .i64 q, .slice (some ⟨bb, 0, none⟩) N c1] 28 (0, 0)) (some ⟨bb, 0, none⟩) N xs W) => sRangeLimit_any r q _ N c1 xs W g h.ra (Nat.le_of_lt h.sz) (by omega))
  obtain ⟨C, hC⟩ : ∃ C, slC r q xs = C := ⟨_, rfl⟩
  rw [hC] at HS1 HS2 HS3 HS4
  have HC := Lib.hid hC
  clear hC
  generalize slV r q xs = V at HS1 HS2
  generalize rlV r q xs = V2 at HS3 HS4
  obtain ⟨y0, y1, y2, -⟩ := blk3 HP2.out.k
  go_wp2_with fail
  go_at_call 9
  with_reducible refine (HS1.out _ HP2.out).mono ?_
  rintro e3 w3 ⟨rfl, hb3⟩
  have HP3 := Lib.hid (HP2.out.below hb3 HP2.out.sz (Nat.le_refl _))
  clear hb3 y0 y1 y2 HP2
  obtain ⟨y0, y1, y2, -⟩ := blk3 HP3.out.k
  go_wp2_with fail
  go_at_call 7
  with_reducible refine (HS2.out _ HP3.out).mono ?_
  rintro e4 w4 ⟨rfl, hb4⟩
  have HP4 := Lib.hid (HP3.out.below hb4 HP3.out.sz (Nat.le_refl _))
  clear hb4 y0 y1 y2 HP3
  obtain ⟨y0, y1, y2, -⟩ := blk3 HP4.out.k
  go_wp2_with fail
  go_at_call 13
  with_reducible refine (HS3.out _ HP4.out).mono ?_
  rintro e5 w5 ⟨rfl, hb5⟩
  have HP5 := Lib.hid (HP4.out.below hb5 HP4.out.sz (Nat.le_refl _))
  clear hb5 y0 y1 y2 HP4
  obtain ⟨y0, y1, y2, -⟩ := blk3 HP5.out.k
  go_wp2_with fail
  go_at_call 14
  with_reducible refine (HS4.out _ HP5.out).mono ?_
  rintro e6 w6 ⟨rfl, hb6⟩
  have HP6 := Lib.hid (HP5.out.below hb6 HP5.out.sz (Nat.le_refl _))
  clear hb6 y0 y1 y2 HP5 HS1 HS2 HS3 HS4
  have h1 : (C != C) = false := by simp
  have h2 : (V != V) = false := by simp
  have h3 : (V2 != V2) = false := by simp
  by_cases hK : C = 0
  rotate_left
  · have hK' : (C != 0) = true := by simpa using hK
    clear hK
    go_wp2_with fail
    go_ret
    exact ⟨rfl, HP6.out.bl⟩
  subst hK
  have HG := Lib.hid (slC_0 HC.out)
  have h6 := HP6.out.sz
  go_wp2_with fail
  go_at_call 15
  with_reducible refine (roll_any A n c bs 2201 _ w.heap.size (HR.out.below HP6.out.bl) HP6.out.bl.size (by omega) (by omega) (by omega)).mono ?_
  rintro e7 w7 ⟨rfl, hdw7, hb7⟩
  have hL6 := HP6.out.bl.size
  go_wp2_with fail
  go_at_call 16
  with_reducible refine (dice_below_any w6.heap.size A n c bs 200 _ w.heap.size hdw7 (HR.out.below (HP6.out.bl.trans (hb7.mono hL6))) hL6 (by omega) (by omega) (by omega)).mono ?_
  rintro e8 w8 ⟨lo, rfl, hlo0, hlo1, hdw8, hg8⟩
  have hb8 : Below w6.heap.size w6 w8 := hb7.grown hg8 (by have := hb7.size; omega) (fun q hq => by have h' : w6.heap.size = q := (by simpa using hq); omega)
  have HP8 := Lib.hid (HP6.out.below hb8 h6 (Nat.le_refl _))
  clear hb7 hg8 hb8 hdw7 hdw8 HP6 h6 hL6
  have h8 := HP8.out.sz
  go_wp2_with fail
  go_at_call 15
  with_reducible refine (roll_any A n c bs 2203 _ w.heap.size (HR.out.below HP8.out.bl) HP8.out.bl.size (by omega) (by omega) (by omega)).mono ?_
  rintro e9 w9 ⟨rfl, hdw9, hb9⟩
  have hL8 := HP8.out.bl.size
  go_wp2_with fail
  go_at_call 16
  with_reducible refine (dice_below_any w8.heap.size A n c bs 55 _ w.heap.size hdw9 (HR.out.below (HP8.out.bl.trans (hb9.mono hL8))) hL8 (by omega) (by omega) (by omega)).mono ?_
  rintro e10 w10 ⟨dd, rfl, hd0, hd1, hdw10, hg10⟩
  have hb10 : Below w8.heap.size w8 w10 := hb9.grown hg10 (by have := hb9.size; omega) (fun q hq => by have h' : w8.heap.size = q := (by simpa using hq); omega)
  have HPA := Lib.hid (HP8.out.below hb10 h8 (Nat.le_refl _))
  clear hb9 hg10 hb10 hdw9 hdw10 HP8 h8 hL8 h1 h2 h3
  have hA := HPA.out.sz
  have hLA := HPA.out.bl.size
  have hlA := HPA.out.lo
  obtain ⟨hi, hhi⟩ : ∃ hi : Int, lo + 1 + dd = hi := ⟨_, rfl⟩
  have hw1 : IntKind.i64.wrap (lo + 1) = lo + 1 := wr64L (by omega)
  have hw2 : IntKind.i64.wrap (lo + 1 + dd) = hi := by rw [wr64L (by omega), hhi]
  obtain ⟨x0, x1, x2, -⟩ := blk3 HPA.out.k
  have HNW := Lib.hid (fun (w' : World) (hb : Below w10.heap.size w10 w') => ri_news HPA.out.ra (hb.mono (Nat.le_of_lt hA)))
  have HLX : Hid ((xs.map (Value.int .i64)).length = N * 1) := Lib.hid (by simp [HN.out])
  have HOK := Lib.hid (ints_ok xs)
  go_wp2_with fail
  have hcount : 0 + N ≤ maxLen := by unfold maxLen; omega
  have hbytes : (0 + N) * 8 ≤ 140737488355328 := by omega
  go_cut [14] (fun sa wx => ∃ (gq gg cap : Nat), sa = .pointer (some ⟨gq, 0, none⟩) ∧ Hid (LqP w gq gg cap r q N xs wx))
  case first =>
    go_region_held_law (fun w' => w'.cell? ⟨g, 0, none⟩ = some (.int .i64 r) ∧ w'.cell? ⟨g, 1, none⟩ = some (.int .i64 q) ∧ w'.cell? ⟨g, 2, none⟩ = some (.slice (some ⟨bb, 0, none⟩) N c1))
      (first | exact blk3o hk8.out (by omega) | exact ⟨q0, q1, q2⟩ | exact ⟨x0, x1, x2⟩ | go_keep)
      (first
        | (refine step_append_lies _ (by rfl) _ _ 22 (by rfl) w.heap.size 2 i0 (.int .i64 0) 1 8 Try.underlying22 HI.out.2.1 HI.out.2.2.1 HI.out.2.2.2.1 HI.out.2.2.2.2 rfl (by decide) (.slice (some ⟨w10.heap.size, 0, none⟩) 0 0) 0 [] (by rfl) (own_empty w10.drew w.heap.size hLA) ⟨bb, 0, none⟩ N c1 (xs.map (Value.int .i64)) (by rfl) HLX.out (HNW.out _ (by (repeat (first | (with_reducible assumption) | (with_reducible exact Below.refl _ _) | (with_reducible refine below_drewN' ?_ _) | (with_reducible refine Below.drew ?_) | ((with_reducible refine Below.alloc ?_ ?_ _); rotate_left; focus (first | (simp; done) | (simp; omega) | omega)) | ((with_reducible refine Below.setCell ?_ ?_ _); rotate_left; focus (first | (simp; done) | (simp; omega) | omega)))))) HOK.out (by omega) hcount hbytes (by simp; omega) (w10.heap.size + 1) (by simp) ?_; intro gg cap wa hoa0 hga hat hlt; have hoa := Lib.hid (show Own wa w.heap.size (.slice (some ⟨gg, 0, none⟩) N cap) xs from (by unfold Own; rw [HN.out]; simpa using hoa0)); have hk8 := Lib.hid ((hga.block g (by simp; omega) (by simp [Value.ownBlock]; omega)).trans (blk_alloc (u := .cells #[] 2) (show w10.drew.heap[g]? = _ from HPA.out.k) hA)); obtain ⟨q0, q1, q2, -⟩ := blk3 hk8.out; have hB8 := Lib.hid (show Below w.heap.size w wa from Below.grown (HPA.out.bl.drew.alloc hLA _) hga (by simp; omega) (fun k e => by simp [Value.ownBlock] at e; omega)); (first | rw [Nat.zero_add] | simp only [Nat.zero_add]); clear hoa0 hga hat)
        | (refine step_append_lies _ (by rfl) _ _ 22 (by rfl) w.heap.size 2 i0 (.int .i64 0) 1 8 Try.underlying22 HI.out.2.1 HI.out.2.2.1 HI.out.2.2.2.1 HI.out.2.2.2.2 rfl (by decide) (.slice (some ⟨w10.heap.size, 0, none⟩) 0 0) 0 [] (by rfl) ((own_empty w10 w.heap.size hLA).alloc (.cells #[.int .i64 0, .int .i64 0, .slice none 0 0] 28)) ⟨bb, 0, none⟩ N c1 (xs.map (Value.int .i64)) (by rfl) HLX.out (HNW.out _ (by (repeat (first | (with_reducible assumption) | (with_reducible exact Below.refl _ _) | (with_reducible refine below_drewN' ?_ _) | (with_reducible refine Below.drew ?_) | ((with_reducible refine Below.alloc ?_ ?_ _); rotate_left; focus (first | (simp; done) | (simp; omega) | omega)) | ((with_reducible refine Below.setCell ?_ ?_ _); rotate_left; focus (first | (simp; done) | (simp; omega) | omega)))))) HOK.out (by omega) hcount hbytes (by simp; omega) (w10.heap.size + 1 + 1) (by simp) ?_; intro gg cap wa hoa0 hga hat hlt; have hoa := Lib.hid (show Own wa w.heap.size (.slice (some ⟨gg, 0, none⟩) N cap) xs from (by unfold Own; rw [HN.out]; simpa using hoa0)); have hk8 := Lib.hid ((hga.block g (by simp; omega) (by simp [Value.ownBlock]; omega)).trans (blk_alloc (u := .cells #[.int .i64 0, .int .i64 0, .slice none 0 0] 28) (blk_alloc (u := .cells #[] 2) (show w10.heap[g]? = _ from HPA.out.k) hA) (by simp; omega))); obtain ⟨q0, q1, q2, -⟩ := blk3 hk8.out; have hB8 := Lib.hid (show Below w.heap.size w wa from Below.grown ((HPA.out.bl.alloc hLA _).alloc (by simp; omega) _).drew hga (by simp; omega) (fun k e => by simp [Value.ownBlock] at e; omega)); have hz8 := Lib.hid ((hga.block (w10.heap.size + 1) (by simp) (by simp [Value.ownBlock])).trans (heap_alloc_at (w := w10.alloc (.cells #[] 2)) (o := .cells #[.int .i64 0, .int .i64 0, .slice none 0 0] 28) (by simp))); obtain ⟨z0, z1, z2, zf⟩ := blk3 hz8.out; have hne8 : gg ≠ w10.heap.size + 1 := (by rcases hat with h | h <;> (first | omega | (simp [Value.ownBlock] at h; omega))); (first | rw [Nat.zero_add] | simp only [Nat.zero_add]); clear hoa0 hga hat)
        | (refine step_append_lies _ (by rfl) _ _ 22 (by rfl) w.heap.size 2 i0 (.int .i64 0) 1 8 Try.underlying22 HI.out.2.1 HI.out.2.2.1 HI.out.2.2.2.1 HI.out.2.2.2.2 rfl (by decide) (.slice (some ⟨w10.heap.size + 1, 0, none⟩) 0 0) 0 [] (by rfl) (own_emptyA (w10.alloc (.cells #[.int .i64 0, .int .i64 0, .slice none 0 0] 28)) w.heap.size (w10.heap.size + 1) (by simp; omega) (by simp)) ⟨bb, 0, none⟩ N c1 (xs.map (Value.int .i64)) (by rfl) HLX.out (HNW.out _ (by (repeat (first | (with_reducible assumption) | (with_reducible exact Below.refl _ _) | (with_reducible refine below_drewN' ?_ _) | (with_reducible refine Below.drew ?_) | ((with_reducible refine Below.alloc ?_ ?_ _); rotate_left; focus (first | (simp; done) | (simp; omega) | omega)) | ((with_reducible refine Below.setCell ?_ ?_ _); rotate_left; focus (first | (simp; done) | (simp; omega) | omega)))))) HOK.out (by omega) hcount hbytes (by simp; omega) (w10.heap.size + 1 + 1) (by simp) ?_; intro gg cap wa hoa0 hga hat hlt; have hoa := Lib.hid (show Own wa w.heap.size (.slice (some ⟨gg, 0, none⟩) N cap) xs from (by unfold Own; rw [HN.out]; simpa using hoa0)); have hk8 := Lib.hid ((hga.block g (by simp; omega) (by simp [Value.ownBlock]; omega)).trans (blk_alloc (u := .cells #[] 2) (blk_alloc (u := .cells #[.int .i64 0, .int .i64 0, .slice none 0 0] 28) (show w10.heap[g]? = _ from HPA.out.k) hA) (by simp; omega))); obtain ⟨q0, q1, q2, -⟩ := blk3 hk8.out; have hB8 := Lib.hid (show Below w.heap.size w wa from Below.grown ((HPA.out.bl.alloc hLA _).alloc (by simp; omega) _).drew hga (by simp; omega) (fun k e => by simp [Value.ownBlock] at e; omega)); have hz8 := Lib.hid ((hga.block w10.heap.size (by simp; omega) (by simp [Value.ownBlock])).trans (blk_alloc (u := .cells #[] 2) (heap_alloc_new w10 (.cells #[.int .i64 0, .int .i64 0, .slice none 0 0] 28)) (by simp))); obtain ⟨z0, z1, z2, zf⟩ := blk3 hz8.out; have hne8 : gg ≠ w10.heap.size := (by rcases hat with h | h <;> (first | omega | (simp [Value.ownBlock] at h; omega))); (first | rw [Nat.zero_add] | simp only [Nat.zero_add]); clear hoa0 hga hat))
    all_goals
      go_wp2_with fail
      go_meet
      case rel =>
        first
          | exact ⟨_, _, _, rfl, Lib.hid (LqP.last hB8.out hoa.out)⟩
          | exact ⟨_, _, _, rfl, Lib.hid (LqP.early hB8.out hoa.out hz8.out hne8 (by omega))⟩
  obtain ⟨gq, gg, cap, rfl, hlq⟩ := hcut
  rename World => w11
  have hgl2 := (World.ownsRow.lt hlq.out.own gg rfl).2
  have hgq := hlq.out.l1
  have hw := hlq.out.bl.size
  have HAL := Lib.hid (altL_len lo hi N)
  clear x0 x1 x2 HNW HLX HOK hcount hbytes hw1 hw2 HPA hA hLA hlA hgl
  obtain ⟨y0, y1, y2, -⟩ := blk3 hlq.out.k
  go_wp2_with fail
  clear y0 y1 y2
  go_loopw [15, 16] (fun qv i wr => ∃ k : Nat, k ≤ N ∧ i = .int .i64 k ∧ qv = .int .i64 (((k + 1) / 2 : Nat) : Int) ∧ Hid (LqP w gq gg cap r q N ((altL lo hi N).take k ++ xs.drop k) wr)) (fun _ i _ => N - (intOf i).toNat)
  case atStart => exact ⟨0, Nat.zero_le _, rfl, rfl, Lib.hid (by simpa using hlq.out)⟩
  case round =>
    obtain ⟨k, hk, rfl, rfl, hp⟩ := hrel
    have hlm : ((altL lo hi N).take k ++ xs.drop k).length = N := by rw [len_mix (by rw [HAL.out, HN.out]) (by rw [HN.out]; omega)]; exact HN.out
    have HLM := Lib.hid hlm
    clear hlm
    obtain ⟨y0, y1, y2, -⟩ := blk3 hp.out.k
    have hqr := hp.out.l1
    have hgr := (World.ownsRow.lt hp.out.own gg rfl).2
    by_cases hlt : k < N
    · have hki : (k : Int) < (N : Int) := by omega
      have hmix := alt_mix (a := lo) (b := hi) HN.out hlt
      obtain ⟨g', c', e', hB', hg', hc', hf'⟩ := hp.out.own.row (by rw [HLM.out]; omega)
      obtain ⟨rfl, rfl⟩ : gg = g' ∧ cap = c' := by
        simp only [Value.slice.injEq, Option.some.injEq, Addr.mk.injEq, and_true] at e'
        exact ⟨e'.1, e'.2.2⟩
      have hdk := hc' k (by rw [HLM.out]; exact hlt)
      have hfk := hf' k
      have hd2 : (k + 1) / 2 ≤ 1000 := by omega
      clear hc' hf' e' hB'
      obtain ⟨D, hD⟩ : ∃ D, (k + 1) / 2 = D := ⟨_, rfl⟩
      have HDD := Lib.hid hD
      rw [hD] at hd2 ⊢
      clear hD
      by_cases hpar : k % 2 = 0
      · rw [if_pos hpar] at hmix
        have HM := Lib.hid hmix
        have e1 : ((k : Int) % 2 == 0) = true := by simp; omega
        have e2 : ((k : Int).tmod 2 == 0) = true := by rw [Int.tmod_eq_emod_of_nonneg (by omega)]; exact e1
        have HE : Hid ((k + 1 + 1) / 2 = D + 1) := Lib.hid (by rw [← HDD.out]; omega)
        clear hmix hpar
        go_wp2_with fail
        go_roundw
        case rel => exact ⟨k + 1, by omega, by go_num, by rw [HE.out]; go_num, Lib.hid (by rw [← HM.out]; exact hp.out.set HLM.out k lo)⟩
        case measure => simp [intOf]; omega
      · rw [if_neg hpar] at hmix
        have HM := Lib.hid hmix
        have e1 : ((k : Int) % 2 == 0) = false := by simp; omega
        have e2 : ((k : Int).tmod 2 == 0) = false := by rw [Int.tmod_eq_emod_of_nonneg (by omega)]; exact e1
        have HE : Hid ((k + 1 + 1) / 2 = D) := Lib.hid (by rw [← HDD.out]; omega)
        clear hmix hpar
        go_wp2_with fail
        go_roundw
        case rel => exact ⟨k + 1, by omega, by go_num, by rw [HE.out], Lib.hid (by rw [← HM.out]; exact hp.out.set HLM.out k hi)⟩
        case measure => simp [intOf]; omega
    · obtain rfl : k = N := by omega
      have hki : ¬ (k : Int) < (k : Int) := by omega
      have hfin := hp.out
      rw [List.take_of_length_le (by rw [HAL.out]; exact Nat.le_refl _), List.drop_of_length_le (by rw [HN.out]; exact Nat.le_refl _), List.append_nil] at hfin
      have HF := Lib.hid hfin
      have hri : RI wr wr.heap.size (some ⟨gg, 0, none⟩) k (altL lo hi k) := by
        obtain ⟨A', c', e', h'⟩ := hfin.own.shape
        simp only [Value.slice.injEq] at e'
        obtain ⟨rfl, -, -⟩ := e'
        rwa [HAL.out] at h'
      clear hp
      by_cases h2 : (k : Int) < 2
      · go_wp2_with fail
        go_ret
        exact ⟨rfl, HF.out.bl⟩
      obtain ⟨c1, c2, c3, c4, c5⟩ := lim_good (a := lo) (b := hi) HG.out HN.out hlo0 (by omega) (by omega) (by omega)
      have HS1 := Lib.hid (fun (W : World) (hb : Below wr.heap.size wr W) => SplitLimit_any r q _ k cap (altL lo hi k) W wr.heap.size (hri.below hb) hb.size (by omega))
      have HS2 := Lib.hid (fun (W : World) (hb : Below wr.heap.size wr W) => DarkPixels_any r q ((lo + hi + 1) / 2) _ k cap (altL lo hi k) W wr.heap.size (hri.below hb) hb.size (by omega))
      have HS3 := Lib.hid (fun (W : World) (hb : Below wr.heap.size wr W) => ContrastOf_any r q _ k cap (altL lo hi k) W wr.heap.size (hri.below hb) hb.size (by omega))
      rw [c1, c2] at HS1
      rw [c3, c4] at HS2
      rw [c1, c5] at HS3
      generalize (lo + hi + 1) / 2 = M at HS1 HS2
      have hwd : IntKind.i64.wrap (hi - lo) = hi - lo := wr64L (by omega)
      have q1 : ((((k + 1) / 2 : Nat) : Int) == (((k + 1) / 2 : Nat) : Int)) = true := by simp
      have q2 : (hi - lo == hi - lo) = true := by simp
      generalize (k + 1) / 2 = D at HS2 q1 ⊢
      have HK := Lib.hid HF.out.k
      have HBR := Lib.hid HF.out.bl
      clear c1 c2 c3 c4 c5 HF hri
      go_wp2_with fail
      go_at_call 9
      with_reducible refine (HS1.out _ (Below.refl _ _)).mono ?_
      rintro e12 w12 ⟨rfl, hb12⟩
      have HB12 := Lib.hid hb12
      obtain ⟨y0, y1, y2, -⟩ := blk3 (blk_below HK.out hb12 hqr)
      clear hb12
      go_wp2_with fail
      go_at_call 17
      with_reducible refine (HS2.out _ HB12.out).mono ?_
      rintro e13 w13 ⟨rfl, hb13⟩
      have HB13 := Lib.hid (HB12.out.trans (hb13.mono HB12.out.size))
      clear hb13 y0 y1 y2
      obtain ⟨y0, y1, y2, -⟩ := blk3 (blk_below HK.out HB13.out hqr)
      go_wp2_with fail
      go_at_call 18
      with_reducible refine (HS3.out _ HB13.out).mono ?_
      rintro e14 w14 ⟨rfl, hb14⟩
      have HB14 := Lib.hid (HB13.out.trans (hb14.mono HB13.out.size))
      clear hb14 y0 y1 y2
      go_wp2_with fail
      go_ret
      exact ⟨rfl, HBR.out.trans (HB14.out.mono HBR.out.size)⟩
set_option maxRecDepth 100000 in
theorem lifted_FnLimits (os : Os) (started : os.Started) (H : Type) (enc : TypeId × Value → H) :
    ReturnsInHanded {} Try.checked os 4 .any (Rows.fnLimitsSpec.pre6 enc Try.prog Try.f4 Rows.fnLimitsRow.domain false) (Rows.fnLimitsSpec.post enc Try.prog Try.f4 false true false false) := by
  refine law_lifted (C := Try.checked) (tb := 4) own started (by kernel_rfl) Try.func4
    (ChangeSpec.witness6 (enc := enc) (C := Try.checked) false ⟨#[], #[.slice none 0 0], []⟩ 8 (by kernel_rfl) (by kernel_rfl) (by kernel_rfl) (by kernel_rfl))
    laidOut (by kernel_rfl) rfl rfl Try.underlying4 ?_ ?_
  · intro ds hd
    match ds, hd with
    | [e0], _ => rfl
  · intro W base args ds p hval hA hlt hsz
    have hval1 : ∀ (j : Nat) t v, Try.f4.params[j]? = some t → args[j]? = some v → Value.okWide Try.prog W .any base t v := hval
    have hA1 : DataW.TrodAll enc Try.prog W 0 (fun _ => true) true Try.f4.params.toList args.toList ds p := hA
    have hsz1 : (DataW.weightsEach Try.prog Try.f4.params.toList ds).all (· ≤ reachBytes) = true := hsz
    rw [Try.params4] at hval1 hA1 hsz1
    clear hval hA hsz
    obtain ⟨v0, d0, rfl, rfl, h0⟩ := trodAll_one hA1
    obtain ⟨A, n, c, bs, rfl, hr, _⟩ := arg_bytes Try.underlying32 Try.underlying5 (by kernel_rfl) (hval1 0 32 v0 rfl rfl) h0 (fun x hx => hlt x (by simp [hx]))
    exact lawFnLimits A n c bs W hr
theorem holds_FnLimits : Rows.FnLimitsSaid :=
  OpenClaim.holds_of_wide 4 Try.f4 rfl rfl rfl rfl rfl rfl rfl ⟨rfl, rfl, rfl, rfl, rfl⟩ rfl rfl rfl rfl rfl (by kernel_rfl) Try.func4 (by kernel_rfl)
    (of_decide_eq_true (by kernel_rfl)) (by unfold Func.isWrapper; first | (rw [if_pos (by decide +kernel)]; kernel_rfl) | (rw [if_neg (by decide +kernel)]; exact ⟨rfl, rfl⟩))
    (fun os started H enc _ => lifted_FnLimits os started H enc)

end Go.Proofs.Ytkipaefhnmfebaa
