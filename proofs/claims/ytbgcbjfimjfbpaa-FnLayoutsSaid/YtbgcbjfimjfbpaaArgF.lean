/-
  Arguments that are families, opened; the laws' own words on families and layouts.
-/
import Derived.Test.YtbgcbjfimjfbpaaArgG
import Derived.Test.YtbgcbjfimjfbpaaC13F
namespace Go.Proofs.Ytbgcbjfimjfbpaa
set_option linter.unusedSimpArgs false
open Go.ChangeShapes Go.WideShapes Go.ChangeAt Go.RowKit Go.Deep

theorem array8 {α : Type} {cs : Array α} (h : cs.size = 8) : ∃ c0 c1 c2 c3 c4 c5 c6 c7, cs = #[c0, c1, c2, c3, c4, c5, c6, c7] := by
  obtain ⟨l⟩ := cs
  match l, h with
  | [c0, c1, c2, c3, c4, c5, c6, c7], _ => exact ⟨c0, c1, c2, c3, c4, c5, c6, c7, rfl⟩
theorem arg_fam {H : Type} {enc : TypeId × Value → H} {P : Program} {W : World} {r : Reach} {base : Nat} {t e : TypeId} {f0 f1 f2 f3 f4 f5 g0 g1 g2 : Field} {v : Value} {d : DataW H} {ps : List MemPlace}
    (hs : P.underlying t = some (.struct #[f0, f1, f2, f3, f4, f5])) (hC : P.cellsOf t = 8)
    (ho : f0.offset = 0 ∧ f1.offset = 1 ∧ f2.offset = 2 ∧ f3.offset = 5 ∧ f4.offset = 6 ∧ f5.offset = 7)
    (hk : P.cellsOf f0.type = 1 ∧ P.cellsOf f1.type = 1 ∧ P.cellsOf f2.type = 3 ∧ P.cellsOf f3.type = 1 ∧ P.cellsOf f4.type = 1 ∧ P.cellsOf f5.type = 1)
    (h0 : P.underlying f0.type = some .string) (h1 : P.underlying f1.type = some (.int .i64)) (hF : P.underlying f2.type = some (.struct #[g0, g1, g2]))
    (hgo : g0.offset = 0 ∧ g1.offset = 1 ∧ g2.offset = 2) (hgk : P.cellsOf g0.type = 1 ∧ P.cellsOf g1.type = 1 ∧ P.cellsOf g2.type = 1)
    (hg0 : P.underlying g0.type = some (.int .i64)) (hg1 : P.underlying g1.type = some (.int .i64)) (hg2 : P.underlying g2.type = some (.int .i64))
    (h3 : P.underlying f3.type = some (.slice e)) (h4 : P.underlying f4.type = some (.int .i64)) (h5 : P.underlying f5.type = some (.slice e)) (he : P.underlying e = some (.int .i64)) (hc : P.cellsOf e = 1)
    (hv : Value.okWide P W r base t v) (h : DataW.Trod enc P W 0 (fun _ => true) true t v d ps) (hlt : ∀ x ∈ ps, x.block < W.heap.size) :
    ∃ (s : ByteArray) (kind p k g col : Int) (A1 A2 : Option Addr) (n1 c1 n2 c2 : Nat) (sz lv : List Int), v = .agg #[.string s, .int .i64 kind, .int .i64 p, .int .i64 k, .int .i64 g, .slice A1 n1 c1, .int .i64 col, .slice A2 n2 c2] ∧ s.size ≤ 9223372036854775807 ∧ RI W W.heap.size A1 n1 sz ∧ n1 ≤ 9223372036854775807 ∧ RI W W.heap.size A2 n2 lv ∧ n2 ≤ 9223372036854775807 := by
  obtain ⟨cs, rfl, hsz⟩ := okWide_struct hs hv
  obtain ⟨c0, c1, c2, c3, c4, c5, c6, c7, rfl⟩ := array8 (hsz.trans hC)
  obtain ⟨fuel, hf⟩ := h
  obtain ⟨xs, n, _, hx, _, hlen, hfs⟩ := DataW.trod_struct hs hf
  obtain ⟨o0, o1, o2, o3, o4, o5⟩ := ho
  obtain ⟨k0, k1, k2, k3, k4, k5⟩ := hk
  match xs, hlen with
  | [y0, y1, y2, y3, y4, y5], _ =>
    have e0 := hfs 0 f0 rfl
    have e1 := hfs 1 f1 rfl
    have e2 := hfs 2 f2 rfl
    have e3 := hfs 3 f3 rfl
    have e4 := hfs 4 f4 rfl
    have e5 := hfs 5 f5 rfl
    simp [Value.cells, o0, o1, o2, o3, o4, o5, k0, k1, k2, k3, k4, k5] at e0 e1 e2 e3 e4 e5
    obtain ⟨s, hs0, _, hsl⟩ := DataW.trod_string h0 e0
    obtain ⟨kind, hkd, _, _⟩ := DataW.trod_int h1 e1
    obtain ⟨ys, m, _, hy, _, hylen, hgs⟩ := DataW.trod_struct hF e2
    obtain ⟨A1, n1, cc1, sz, hc3, hr1, hn1, _⟩ := cell_ints h3 he hc e3 (fun x hx' => hlt x (by simp at hx; rw [hx.2]; simp [hx']))
    obtain ⟨col, hcl, _, _⟩ := DataW.trod_int h4 e4
    obtain ⟨A2, n2, cc2, lv, hc5, hr2, hn2, _⟩ := cell_ints h5 he hc e5 (fun x hx' => hlt x (by simp at hx; rw [hx.2]; simp [hx']))
    obtain ⟨q0, q1, q2⟩ := hgo
    obtain ⟨l0, l1, l2⟩ := hgk
    match ys, hylen with
    | [z0, z1, z2], _ =>
      have u0 := hgs 0 g0 rfl
      have u1 := hgs 1 g1 rfl
      have u2 := hgs 2 g2 rfl
      simp [q0, q1, q2, l0, l1, l2] at u0 u1 u2
      obtain ⟨p, hp, _, _⟩ := DataW.trod_int hg0 u0
      obtain ⟨k, hk, _, _⟩ := DataW.trod_int hg1 u1
      obtain ⟨g, hg, _, _⟩ := DataW.trod_int hg2 u2
      simp only [List.cons.injEq, and_true] at hs0 hkd hc3 hcl hc5 hp hk hg
      subst hs0 hkd hc3 hcl hc5 hp hk hg
      unfold maxLen at hsl
      exact ⟨s, kind, p, k, g, col, A1, A2, n1, cc1, n2, cc2, sz, lv, rfl, hsl, hr1, hn1, hr2, hn2⟩
set_option maxHeartbeats 2000000 in
theorem szFamily_ok (s : ByteArray) (kind p k g col : Int) (A1 A2 : Option Addr) (n1 c1 n2 c2 : Nat) (_sz _lv : List Int) (w : World) (h : s.size + n1 + n2 ≤ 1048576) :
    Calls Try.prog 11 #[.agg #[.string s, .int .i64 kind, .int .i64 p, .int .i64 k, .int .i64 g, .slice A1 n1 c1, .int .i64 col, .slice A2 n2 c2], .int .i64 1048576] w fun e w' => e = .returned (.int .i64 (1048576 - s.size - n1 - n2 : Nat)) ∧ Below w.heap.size w w' := by
  go_enter Try.func11, Try.ntmps11
  go_wp2_with fail
  have e1 : (1048576 : Int) - s.size = ((1048576 - s.size : Nat) : Int) := by omega
  try rw [e1]
  go_at_call 45
  refine (szInt64S_ok A1 n1 c1 (1048576 - s.size) _ (by omega) (by omega)).mono ?_
  rintro e w' ⟨rfl, rfl⟩
  go_wp2_with fail
  go_at_call 45
  refine (szInt64S_ok A2 n2 c2 (1048576 - s.size - n1) _ (by omega) (by omega)).mono ?_
  rintro e w' ⟨rfl, rfl⟩
  go_wp2_with fail
  go_ret
  exact ⟨rfl, by (repeat (first | (with_reducible assumption) | (with_reducible exact Below.refl _ _) | (with_reducible refine below_drewN' ?_ _) | (with_reducible refine Below.drew ?_) | ((with_reducible refine Below.alloc ?_ ?_ _); rotate_left; focus (first | (simp; done) | (simp; omega) | omega)) | ((with_reducible refine Below.setCell ?_ ?_ _); rotate_left; focus (first | (simp; done) | (simp; omega) | omega))))⟩
theorem szFamily_no (s : ByteArray) (kind p k g col : Int) (A1 A2 : Option Addr) (n1 c1 n2 c2 : Nat) (_sz _lv : List Int) (w : World) (h : 1048576 < s.size + n1 + n2) (hs : s.size ≤ 9223372036854775807) (hn1 : n1 ≤ 9223372036854775807) (hn2 : n2 ≤ 9223372036854775807) :
    Calls Try.prog 11 #[.agg #[.string s, .int .i64 kind, .int .i64 p, .int .i64 k, .int .i64 g, .slice A1 n1 c1, .int .i64 col, .slice A2 n2 c2], .int .i64 1048576] w fun e w' => e = .returned (.int .i64 (-1)) ∧ Below w.heap.size w w' := by
  by_cases h1 : 1048576 < s.size
  · go_enter Try.func11, Try.ntmps11
    go_wp2_with fail
    go_ret
    exact ⟨rfl, by (repeat (first | (with_reducible assumption) | (with_reducible exact Below.refl _ _) | (with_reducible refine below_drewN' ?_ _) | (with_reducible refine Below.drew ?_) | ((with_reducible refine Below.alloc ?_ ?_ _); rotate_left; focus (first | (simp; done) | (simp; omega) | omega)) | ((with_reducible refine Below.setCell ?_ ?_ _); rotate_left; focus (first | (simp; done) | (simp; omega) | omega))))⟩
  · have e1 : (1048576 : Int) - s.size = ((1048576 - s.size : Nat) : Int) := by omega
    by_cases h2 : 1048576 - s.size < n1
    · go_enter Try.func11, Try.ntmps11
      go_wp2_with fail
      go_at_call 45
      refine (szInt64S_no A1 n1 c1 (1048576 - s.size) _ (by omega) (by omega)).mono ?_
      rintro e w' ⟨rfl, rfl⟩
      go_wp2_with fail
      go_ret
      exact ⟨rfl, by (repeat (first | (with_reducible assumption) | (with_reducible exact Below.refl _ _) | (with_reducible refine below_drewN' ?_ _) | (with_reducible refine Below.drew ?_) | ((with_reducible refine Below.alloc ?_ ?_ _); rotate_left; focus (first | (simp; done) | (simp; omega) | omega)) | ((with_reducible refine Below.setCell ?_ ?_ _); rotate_left; focus (first | (simp; done) | (simp; omega) | omega))))⟩
    · go_enter Try.func11, Try.ntmps11
      go_wp2_with fail
      go_at_call 45
      refine (szInt64S_ok A1 n1 c1 (1048576 - s.size) _ (by omega) (by omega)).mono ?_
      rintro e w' ⟨rfl, rfl⟩
      go_wp2_with fail
      go_at_call 45
      refine (szInt64S_no A2 n2 c2 (1048576 - s.size - n1) _ (by omega) (by omega)).mono ?_
      rintro e w' ⟨rfl, rfl⟩
      go_wp2_with fail
      go_ret
      exact ⟨rfl, by (repeat (first | (with_reducible assumption) | (with_reducible exact Below.refl _ _) | (with_reducible refine below_drewN' ?_ _) | (with_reducible refine Below.drew ?_) | ((with_reducible refine Below.alloc ?_ ?_ _); rotate_left; focus (first | (simp; done) | (simp; omega) | omega)) | ((with_reducible refine Below.setCell ?_ ?_ _); rotate_left; focus (first | (simp; done) | (simp; omega) | omega))))⟩
theorem toField_any (p k g : Int) (w : World) :
    Calls Try.prog 50 #[.agg #[.int .i64 p, .int .i64 k, .int .i64 g]] w fun e w' => e = .returned (.agg #[.int .i64 p, .int .i64 k, .int .i64 g]) ∧ Below w.heap.size w w' := by
  go_enter Try.func50, Try.ntmps50
  go_wp2_with fail
  (try simp only [Exit.inBlock, Exit.then]); refine bodyPost_ret (by simp [results, Try.results50, go_sem, ]; try rfl) rfl ?_
  exact ⟨rfl, by (repeat (first | (with_reducible assumption) | (with_reducible exact Below.refl _ _) | (with_reducible refine below_drewN' ?_ _) | (with_reducible refine Below.drew ?_) | ((with_reducible refine Below.alloc ?_ ?_ _); rotate_left; focus (first | (simp; done) | (simp; omega) | omega)) | ((with_reducible refine Below.setCell ?_ ?_ _); rotate_left; focus (first | (simp; done) | (simp; omega) | omega))))⟩
theorem eqField_same (p k g : Int) (w : World) :
    Calls Try.prog 54 #[.agg #[.int .i64 p, .int .i64 k, .int .i64 g], .agg #[.int .i64 p, .int .i64 k, .int .i64 g]] w fun e w' => e = .returned (.bool true) ∧ Below w.heap.size w w' := by
  have h1 : (p != p) = false := by simp
  have h2 : (k != k) = false := by simp
  have h3 : (g != g) = false := by simp
  go_enter Try.func54, Try.ntmps54
  go_wp2_with fail
  go_ret
  exact ⟨rfl, by (repeat (first | (with_reducible assumption) | (with_reducible exact Below.refl _ _) | (with_reducible refine below_drewN' ?_ _) | (with_reducible refine Below.drew ?_) | ((with_reducible refine Below.alloc ?_ ?_ _); rotate_left; focus (first | (simp; done) | (simp; omega) | omega)) | ((with_reducible refine Below.setCell ?_ ?_ _); rotate_left; focus (first | (simp; done) | (simp; omega) | omega))))⟩
theorem eqLayout_same (p k g d h c : Int) (w : World) :
    Calls Try.prog 15 #[.agg #[.int .i64 p, .int .i64 k, .int .i64 g, .int .i64 d, .int .i64 h, .int .i64 c], .agg #[.int .i64 p, .int .i64 k, .int .i64 g, .int .i64 d, .int .i64 h, .int .i64 c]] w fun e w' => e = .returned (.bool true) ∧ Below w.heap.size w w' := by
  have h1 : (d != d) = false := by simp
  have h2 : (h != h) = false := by simp
  have h3 : (c != c) = false := by simp
  have HE := Lib.hid (fun w => eqField_same p k g w)
  go_enter Try.func15, Try.ntmps15
  go_wp2_with (go_at_call 54; with_reducible refine (HE.out _).mono ?_; rintro e1 w1 ⟨rfl, hb1⟩; obtain ⟨hc1, hf1⟩ := bcell hb1; have hB1 : Below w.heap.size w w1 := (below_then (by first | (go_grown; done) | (repeat (first | (with_reducible assumption) | (with_reducible exact Below.refl _ _) | (with_reducible refine below_drewN' ?_ _) | (with_reducible refine Below.drew ?_) | ((with_reducible refine Below.alloc ?_ ?_ _); rotate_left; focus (first | (simp; done) | (simp; omega) | omega)) | ((with_reducible refine Below.setCell ?_ ?_ _); rotate_left; focus (first | (simp; done) | (simp; omega) | omega))))) (by first | omega | (simp; done) | (simp; omega)) hb1); have hz1a : w.heap.size < w1.heap.size := (by have := hb1.size; first | omega | (simp at this; omega)); have hz1b : w.heap.size + 1 < w1.heap.size := (by have := hb1.size; first | omega | (simp at this; omega)))
  go_ret
  exact ⟨rfl, by (repeat (first | (with_reducible assumption) | (with_reducible exact Below.refl _ _) | (with_reducible refine below_drewN' ?_ _) | (with_reducible refine Below.drew ?_) | ((with_reducible refine Below.alloc ?_ ?_ _); rotate_left; focus (first | (simp; done) | (simp; omega) | omega)) | ((with_reducible refine Below.setCell ?_ ?_ _); rotate_left; focus (first | (simp; done) | (simp; omega) | omega))))⟩
set_option maxHeartbeats 2000000 in
theorem eqFamily_same (s : ByteArray) (kind p k g col : Int) (A1 A2 A3 A4 : Option Addr) (n1 c1 n2 c2 c3 c4 : Nat) (sz lv : List Int) (w : World) (B : Nat) (h1 : FamOk w B s A1 n1 sz A2 n2 lv) (h2 : FamOk w B s A3 n1 sz A4 n2 lv) (hB : B ≤ w.heap.size) :
    Calls Try.prog 16 #[.agg #[.string s, .int .i64 kind, .int .i64 p, .int .i64 k, .int .i64 g, .slice A1 n1 c1, .int .i64 col, .slice A2 n2 c2], .agg #[.string s, .int .i64 kind, .int .i64 p, .int .i64 k, .int .i64 g, .slice A3 n1 c3, .int .i64 col, .slice A4 n2 c4]] w fun e w' => e = .returned (.bool true) ∧ Below w.heap.size w w' := by
  have q1 : (kind != kind) = false := by simp
  have q2 : (col != col) = false := by simp
  have HE := Lib.hid (fun w => eqField_same p k g w)
  have HS1 := Lib.hid (fun (w' : World) (hb : Below w.heap.size w w') => eqInt64S_any A1 A3 n1 n1 c1 c3 sz sz w' w.heap.size w.heap.size ((h1.h1.more hB).below hb) ((h2.h1.more hB).below hb) h1.l1 h1.l1)
  have HS2 := Lib.hid (fun (w' : World) (hb : Below w.heap.size w w') => eqInt64S_any A2 A4 n2 n2 c2 c4 lv lv w' w.heap.size w.heap.size ((h1.h2.more hB).below hb) ((h2.h2.more hB).below hb) h1.l2 h1.l2)
  rw [show (sz == sz) = true by simp] at HS1
  rw [show (lv == lv) = true by simp] at HS2
  clear h1 h2
  go_enter Try.func16, Try.ntmps16
  go_wp2_with (go_at_call 54; with_reducible refine (HE.out _).mono ?_; rintro e1 w1 ⟨rfl, hb1⟩; obtain ⟨hc1, hf1⟩ := bcell hb1; have hB1 : Below w.heap.size w w1 := (below_then (by first | (go_grown; done) | (repeat (first | (with_reducible assumption) | (with_reducible exact Below.refl _ _) | (with_reducible refine below_drewN' ?_ _) | (with_reducible refine Below.drew ?_) | ((with_reducible refine Below.alloc ?_ ?_ _); rotate_left; focus (first | (simp; done) | (simp; omega) | omega)) | ((with_reducible refine Below.setCell ?_ ?_ _); rotate_left; focus (first | (simp; done) | (simp; omega) | omega))))) (by first | omega | (simp; done) | (simp; omega)) hb1); have hz1a : w.heap.size < w1.heap.size := (by have := hb1.size; first | omega | (simp at this; omega)); have hz1b : w.heap.size + 1 < w1.heap.size := (by have := hb1.size; first | omega | (simp at this; omega)))
  go_at_call 35
  refine (HS1.out _ (by (repeat (first | (with_reducible assumption) | (with_reducible exact Below.refl _ _) | (with_reducible refine below_drewN' ?_ _) | (with_reducible refine Below.drew ?_) | ((with_reducible refine Below.alloc ?_ ?_ _); rotate_left; focus (first | (simp; done) | (simp; omega) | omega)) | ((with_reducible refine Below.setCell ?_ ?_ _); rotate_left; focus (first | (simp; done) | (simp; omega) | omega)))))).mono ?_
  rintro e2 w2 ⟨rfl, m2, rfl⟩
  go_wp2_with fail
  go_at_call 35
  refine (HS2.out _ (by (repeat (first | (with_reducible assumption) | (with_reducible exact Below.refl _ _) | (with_reducible refine below_drewN' ?_ _) | (with_reducible refine Below.drew ?_) | ((with_reducible refine Below.alloc ?_ ?_ _); rotate_left; focus (first | (simp; done) | (simp; omega) | omega)) | ((with_reducible refine Below.setCell ?_ ?_ _); rotate_left; focus (first | (simp; done) | (simp; omega) | omega)))))).mono ?_
  rintro e3 w3 ⟨rfl, m3, rfl⟩
  go_wp2_with fail
  go_ret
  exact ⟨rfl, by (repeat (first | (with_reducible assumption) | (with_reducible exact Below.refl _ _) | (with_reducible refine below_drewN' ?_ _) | (with_reducible refine Below.drew ?_) | ((with_reducible refine Below.alloc ?_ ?_ _); rotate_left; focus (first | (simp; done) | (simp; omega) | omega)) | ((with_reducible refine Below.setCell ?_ ?_ _); rotate_left; focus (first | (simp; done) | (simp; omega) | omega))))⟩
theorem own_ri {w : World} {n : Nat} (c : Nat) {A : Option Addr} {xs : List Int} (h : ∃ B, Own w B (.slice A n c) xs) : RI w w.heap.size A n xs := by
  obtain ⟨B, h⟩ := h
  obtain ⟨A', c', e, hr⟩ := h.shape
  simp only [Value.slice.injEq] at e
  obtain ⟨rfl, rfl, -⟩ := e
  exact hr
theorem res8 {w : World} {b t : Nat} {a0 a1 a2 a3 a4 a5 a6 a7 : Value} (h : w.heap[b]? = some (.cells #[a0, a1, a2, a3, a4, a5, a6, a7] t (0, 0))) (x0 x1 x2 x3 x4 x5 x6 x7 : Value) :
    ((((((((w.setCell ⟨b, 0, none⟩ x0).setCell ⟨b, 1, none⟩ x1).setCell ⟨b, 2, none⟩ x2).setCell ⟨b, 3, none⟩ x3).setCell ⟨b, 4, none⟩ x4).setCell ⟨b, 5, none⟩ x5).setCell ⟨b, 6, none⟩ x6).setCell ⟨b, 7, none⟩ x7).heap[b]? = some (.cells #[x0, x1, x2, x3, x4, x5, x6, x7] t (0, 0)) := by
  have h0 := blk3_set (k := 0) (u := x0) h
  have h1 := blk3_set (k := 1) (u := x1) h0
  have h2 := blk3_set (k := 2) (u := x2) h1
  have h3 := blk3_set (k := 3) (u := x3) h2
  have h4 := blk3_set (k := 4) (u := x4) h3
  have h5 := blk3_set (k := 5) (u := x5) h4
  have h6 := blk3_set (k := 6) (u := x6) h5
  have h7 := blk3_set (k := 7) (u := x7) h6
  simpa using h7
set_option maxHeartbeats 4000000 in
theorem toFamily_any (s : ByteArray) (kind p k g col : Int) (A1 A2 : Option Addr) (n1 c1 n2 c2 : Nat) (sz lv : List Int) (w : World) (B : Nat) (hF : FamOk w B s A1 n1 sz A2 n2 lv) (hB : B ≤ w.heap.size) :
    Calls Try.prog 13 #[.agg #[.string s, .int .i64 kind, .int .i64 p, .int .i64 k, .int .i64 g, .slice A1 n1 c1, .int .i64 col, .slice A2 n2 c2]] w fun e w' => ∃ (A3 A4 : Option Addr) (c3 c4 : Nat), e = .returned (.agg #[.string s, .int .i64 kind, .int .i64 p, .int .i64 k, .int .i64 g, .slice A3 n1 c3, .int .i64 col, .slice A4 n2 c4]) ∧ FamOk w' w'.heap.size s A3 n1 sz A4 n2 lv ∧ Below w.heap.size w w' := by
  have HE := Lib.hid (fun w => toField_any p k g w)
  have HS1 := Lib.hid (fun (w' : World) (hb : Below w.heap.size w w') => toInt64S_any A1 n1 c1 sz w' w.heap.size ((hF.h1.more hB).below hb) hb.size hF.l1)
  have HS2 := Lib.hid (fun (w' : World) (hb : Below w.heap.size w w') => toInt64S_any A2 n2 c2 lv w' w.heap.size ((hF.h2.more hB).below hb) hb.size hF.l2)
  have HF := Lib.hid hF
  have HL1 := Lib.hid hF.h1.len
  have HL2 := Lib.hid hF.h2.len
  clear hF
  go_enter Try.func13, Try.ntmps13
  go_wp2_with fail
  (go_at_call 50; with_reducible refine (HE.out _).mono ?_; rintro e1 w1 ⟨rfl, hb1⟩; obtain ⟨hc1, hf1⟩ := bcell hb1; have hB1 : Below w.heap.size w w1 := (below_then (by first | (go_grown; done) | (repeat (first | (with_reducible assumption) | (with_reducible exact Below.refl _ _) | (with_reducible refine below_drewN' ?_ _) | (with_reducible refine Below.drew ?_) | ((with_reducible refine Below.alloc ?_ ?_ _); rotate_left; focus (first | (simp; done) | (simp; omega) | omega)) | ((with_reducible refine Below.setCell ?_ ?_ _); rotate_left; focus (first | (simp; done) | (simp; omega) | omega))))) (by first | omega | (simp; done) | (simp; omega)) hb1); have hz1a : w.heap.size < w1.heap.size := (by have := hb1.size; first | omega | (simp at this; omega)); have hz1b : w.heap.size + 1 < w1.heap.size := (by have := hb1.size; first | omega | (simp at this; omega)); have hz1c : w.heap.size + 1 + 1 < w1.heap.size := (by have := hb1.size; first | omega | (simp at this; omega)))
  have hP1 : w1.heap[w.heap.size]? = some (.cells #[.string s, .int .i64 kind, .int .i64 p, .int .i64 k, .int .i64 g, .slice A1 n1 c1, .int .i64 col, .slice A2 n2 c2] 26 (0, 0)) := by
    refine blk_below ?_ hb1 (by first | (simp; done) | (simp; omega))
    (repeat (first | (with_reducible exact heap_alloc_new _ _) | (rw [heap_drew1]) | (rw [heap_drewN1]) | (rw [Below.heap_setCell _ _ _ _ (by first | omega | (simp; done) | (simp; omega))]) | (rw [Below.heap_alloc _ _ _ (by first | omega | (simp; done) | (simp; omega))]) | (exact heap_alloc_at (by first | omega | (simp; done) | (simp; omega)))))
  have hR1 : w1.heap[w.heap.size + 1]? = some (.cells #[.string ⟨#[]⟩, .int .i64 0, .int .i64 0, .int .i64 0, .int .i64 0, .slice none 0 0, .int .i64 0, .slice none 0 0] 34 (0, 0)) := by
    refine blk_below ?_ hb1 (by first | (simp; done) | (simp; omega))
    (repeat (first | (with_reducible exact heap_alloc_new _ _) | (rw [heap_drew1]) | (rw [heap_drewN1]) | (rw [Below.heap_setCell _ _ _ _ (by first | omega | (simp; done) | (simp; omega))]) | (rw [Below.heap_alloc _ _ _ (by first | omega | (simp; done) | (simp; omega))]) | (exact heap_alloc_at (by first | omega | (simp; done) | (simp; omega)))))
  have hT1 : w1.heap[w.heap.size + 1 + 1]? = some (.cells #[.string s, .int .i64 kind, .int .i64 0, .int .i64 0, .int .i64 0, .slice none 0 0, .int .i64 0, .slice none 0 0] 34 (0, 0)) := by
    refine blk_below ?_ hb1 (by first | (simp; done) | (simp; omega))
    (repeat (first | (with_reducible exact heap_alloc_new _ _) | (rw [heap_drew1]) | (rw [heap_drewN1]) | (rw [Below.heap_setCell _ _ _ _ (by first | omega | (simp; done) | (simp; omega))]) | (rw [Below.heap_alloc _ _ _ (by first | omega | (simp; done) | (simp; omega))]) | (exact heap_alloc_at (by first | omega | (simp; done) | (simp; omega)))))
  obtain ⟨p0, p1, p2, p3, p4, p5, p6, p7, -⟩ := blk8 hP1
  obtain ⟨t0, t1, t2, t3, t4, t5, t6, t7, tf⟩ := blk8 hT1
  clear hc1 hf1
  go_wp2_with fail
  go_at_call 33
  refine (HS1.out _ (by (repeat (first | (with_reducible assumption) | (with_reducible exact Below.refl _ _) | (with_reducible refine below_drewN' ?_ _) | (with_reducible refine Below.drew ?_) | ((with_reducible refine Below.alloc ?_ ?_ _); rotate_left; focus (first | (simp; done) | (simp; omega) | omega)) | ((with_reducible refine Below.setCell ?_ ?_ _); rotate_left; focus (first | (simp; done) | (simp; omega) | omega)))))).mono ?_
  rintro e2 w2 ⟨v2, rfl, ho2, hb2⟩
  have hB2 : Below w.heap.size w w2 := below_then (by (repeat (first | (with_reducible assumption) | (with_reducible exact Below.refl _ _) | (with_reducible refine below_drewN' ?_ _) | (with_reducible refine Below.drew ?_) | ((with_reducible refine Below.alloc ?_ ?_ _); rotate_left; focus (first | (simp; done) | (simp; omega) | omega)) | ((with_reducible refine Below.setCell ?_ ?_ _); rotate_left; focus (first | (simp; done) | (simp; omega) | omega))))) (by first | omega | (simp; done) | (simp; omega)) hb2
  have hs2 := hb2.size
  simp at hs2
  obtain ⟨A3, c3, rfl, hr2⟩ := ho2.shape
  rw [HL1.out] at ho2 ⊢
  have HO2 := Lib.hid ho2
  have hP2 : w2.heap[w.heap.size]? = some (.cells #[.string s, .int .i64 kind, .int .i64 p, .int .i64 k, .int .i64 g, .slice A1 n1 c1, .int .i64 col, .slice A2 n2 c2] 26 (0, 0)) := by
    refine blk_below ?_ hb2 (by first | (simp; done) | (simp; omega))
    (repeat (first | (with_reducible exact hP1) | (with_reducible exact heap_alloc_new _ _) | (rw [heap_drew1]) | (rw [heap_drewN1]) | (rw [Below.heap_setCell _ _ _ _ (by first | omega | (simp; done) | (simp; omega))]) | (rw [Below.heap_alloc _ _ _ (by first | omega | (simp; done) | (simp; omega))]) | (exact heap_alloc_at (by first | omega | (simp; done) | (simp; omega)))))
  have hR2 : w2.heap[w.heap.size + 1]? = some (.cells #[.string ⟨#[]⟩, .int .i64 0, .int .i64 0, .int .i64 0, .int .i64 0, .slice none 0 0, .int .i64 0, .slice none 0 0] 34 (0, 0)) := by
    refine blk_below ?_ hb2 (by first | (simp; done) | (simp; omega))
    (repeat (first | (with_reducible exact hR1) | (with_reducible exact heap_alloc_new _ _) | (rw [heap_drew1]) | (rw [heap_drewN1]) | (rw [Below.heap_setCell _ _ _ _ (by first | omega | (simp; done) | (simp; omega))]) | (rw [Below.heap_alloc _ _ _ (by first | omega | (simp; done) | (simp; omega))]) | (exact heap_alloc_at (by first | omega | (simp; done) | (simp; omega)))))
  have hT2 : w2.heap[w.heap.size + 1 + 1]? = some (.cells #[.string s, .int .i64 kind, .int .i64 p, .int .i64 k, .int .i64 g, .slice none 0 0, .int .i64 0, .slice none 0 0] 34 (0, 0)) := by
    refine blk_below ?_ hb2 (by first | (simp; done) | (simp; omega))
    have h := blk3_set (k := 4) (u := .int .i64 g) (blk3_set (k := 3) (u := .int .i64 k) (blk3_set (k := 2) (u := .int .i64 p) hT1))
    simpa using h
  clear ho2 hr2 hP1 hR1 hT1 hb2 p0 p1 p2 p3 p4 p5 p6 p7 t0 t1 t2 t3 t4 t5 t6 t7 tf
  obtain ⟨p0, p1, p2, p3, p4, p5, p6, p7, -⟩ := blk8 hP2
  obtain ⟨t0, t1, t2, t3, t4, t5, t6, t7, tf⟩ := blk8 hT2
  go_wp2_with fail
  go_at_call 33
  refine (HS2.out _ (by (repeat (first | (with_reducible assumption) | (with_reducible exact Below.refl _ _) | (with_reducible refine below_drewN' ?_ _) | (with_reducible refine Below.drew ?_) | ((with_reducible refine Below.alloc ?_ ?_ _); rotate_left; focus (first | (simp; done) | (simp; omega) | omega)) | ((with_reducible refine Below.setCell ?_ ?_ _); rotate_left; focus (first | (simp; done) | (simp; omega) | omega)))))).mono ?_
  rintro e3 w3 ⟨v3, rfl, ho3, hb3⟩
  have hB3 : Below w.heap.size w w3 := below_then (by (repeat (first | (with_reducible assumption) | (with_reducible exact Below.refl _ _) | (with_reducible refine below_drewN' ?_ _) | (with_reducible refine Below.drew ?_) | ((with_reducible refine Below.alloc ?_ ?_ _); rotate_left; focus (first | (simp; done) | (simp; omega) | omega)) | ((with_reducible refine Below.setCell ?_ ?_ _); rotate_left; focus (first | (simp; done) | (simp; omega) | omega))))) (by first | omega | (simp; done) | (simp; omega)) hb3
  have hs3 := hb3.size
  simp at hs3
  obtain ⟨A4, c4, rfl, hr3⟩ := ho3.shape
  rw [HL2.out] at ho3 ⊢
  have HO3 := Lib.hid ho3
  have hP3 : w3.heap[w.heap.size]? = some (.cells #[.string s, .int .i64 kind, .int .i64 p, .int .i64 k, .int .i64 g, .slice A1 n1 c1, .int .i64 col, .slice A2 n2 c2] 26 (0, 0)) := by
    refine blk_below ?_ hb3 (by first | (simp; done) | (simp; omega))
    (repeat (first | (with_reducible exact hP2) | (with_reducible exact heap_alloc_new _ _) | (rw [heap_drew1]) | (rw [heap_drewN1]) | (rw [Below.heap_setCell _ _ _ _ (by first | omega | (simp; done) | (simp; omega))]) | (rw [Below.heap_alloc _ _ _ (by first | omega | (simp; done) | (simp; omega))]) | (exact heap_alloc_at (by first | omega | (simp; done) | (simp; omega)))))
  have hR3 : w3.heap[w.heap.size + 1]? = some (.cells #[.string ⟨#[]⟩, .int .i64 0, .int .i64 0, .int .i64 0, .int .i64 0, .slice none 0 0, .int .i64 0, .slice none 0 0] 34 (0, 0)) := by
    refine blk_below ?_ hb3 (by first | (simp; done) | (simp; omega))
    (repeat (first | (with_reducible exact hR2) | (with_reducible exact heap_alloc_new _ _) | (rw [heap_drew1]) | (rw [heap_drewN1]) | (rw [Below.heap_setCell _ _ _ _ (by first | omega | (simp; done) | (simp; omega))]) | (rw [Below.heap_alloc _ _ _ (by first | omega | (simp; done) | (simp; omega))]) | (exact heap_alloc_at (by first | omega | (simp; done) | (simp; omega)))))
  have hT3 : w3.heap[w.heap.size + 1 + 1]? = some (.cells #[.string s, .int .i64 kind, .int .i64 p, .int .i64 k, .int .i64 g, .slice A3 n1 c3, .int .i64 col, .slice none 0 0] 34 (0, 0)) := by
    refine blk_below ?_ hb3 (by first | (simp; done) | (simp; omega))
    have h := blk3_set (k := 6) (u := .int .i64 col) (blk3_set (k := 5) (u := .slice A3 n1 c3) hT2)
    simpa using h
  have HO4 := Lib.hid (((HO2.out.setLt (p := ⟨w.heap.size + 1 + 1, 5, none⟩) (by simp; omega) (.slice A3 n1 c3)).setLt (p := ⟨w.heap.size + 1 + 1, 6, none⟩) (by simp; omega) (.int .i64 col)).keep hb3)
  clear ho3 hr3 hP2 hR2 hT2 hb3 p0 p1 p2 p3 p4 p5 p6 p7 t0 t1 t2 t3 t4 t5 t6 t7 tf
  obtain ⟨p0, p1, p2, p3, p4, p5, p6, p7, -⟩ := blk8 hP3
  obtain ⟨t0, t1, t2, t3, t4, t5, t6, t7, tf⟩ := blk8 hT3
  obtain ⟨z0, z1, z2, z3, z4, z5, z6, z7, zf⟩ := blk8 hR3
  obtain ⟨s0, s1, s2, s3, s4, s5, s6, s7, -⟩ := blk8 (res8 (show (w3.setCell ⟨w.heap.size + 1 + 1, 7, none⟩ (.slice A4 n2 c4)).heap[w.heap.size + 1]? = _ from by (repeat (first | (with_reducible exact hR3) | (with_reducible exact heap_alloc_new _ _) | (rw [heap_drew1]) | (rw [heap_drewN1]) | (rw [Below.heap_setCell _ _ _ _ (by first | omega | (simp; done) | (simp; omega))]) | (rw [Below.heap_alloc _ _ _ (by first | omega | (simp; done) | (simp; omega))]) | (exact heap_alloc_at (by first | omega | (simp; done) | (simp; omega)))))) (.string s) (.int .i64 kind) (.int .i64 p) (.int .i64 k) (.int .i64 g) (.slice A3 n1 c3) (.int .i64 col) (.slice A4 n2 c4))
  go_wp2_with fail
  (try simp only [Exit.inBlock, Exit.then]); refine bodyPost_ret (by simp [results, Try.results13, go_sem, s0, s1, s2, s3, s4, s5, s6, s7]; try rfl) rfl ?_
  exact ⟨A3, A4, c3, c4, rfl, ⟨HF.out.hs, own_ri c3 ⟨_, ((((((((HO4.out.setLt (by simp; omega) _).setLt (by simp; omega) _).setLt (by simp; omega) _).setLt (by simp; omega) _).setLt (by simp; omega) _).setLt (by simp; omega) _).setLt (by simp; omega) _).setLt (by simp; omega) _).setLt (by simp; omega) _⟩, own_ri c4 ⟨_, ((((((((HO3.out.setLt (by simp; omega) _).setLt (by simp; omega) _).setLt (by simp; omega) _).setLt (by simp; omega) _).setLt (by simp; omega) _).setLt (by simp; omega) _).setLt (by simp; omega) _).setLt (by simp; omega) _).setLt (by simp; omega) _⟩, HF.out.l1, HF.out.l2⟩, by (repeat (first | (with_reducible assumption) | (with_reducible exact Below.refl _ _) | (with_reducible refine below_drewN' ?_ _) | (with_reducible refine Below.drew ?_) | ((with_reducible refine Below.alloc ?_ ?_ _); rotate_left; focus (first | (simp; done) | (simp; omega) | omega)) | ((with_reducible refine Below.setCell ?_ ?_ _); rotate_left; focus (first | (simp; done) | (simp; omega) | omega))))⟩
end Go.Proofs.Ytbgcbjfimjfbpaa
