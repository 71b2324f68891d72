/-
  Contracts of chapter 20: the program's raster whose pixels are told by a function value. Printed by gen/c21r.py.
-/
import Derived.Test.YtkipaefhnmfebaaGrd
import Derived.Test.YtkipaefhnmfebaaC14B
import Derived.Deep.RegionHeld3
import Derived.Maps.AppendAt
import Derived.Deep.AppendLies
import Derived.Deep.RegionLaw
namespace Go.Proofs.Ytkipaefhnmfebaa
set_option linter.unusedSimpArgs false
open Go.RowKit Go.Deep

/-- A raster under way: its block p holds the row of the pixels xs; the result's block is still empty. -/
structure RaP (w0 : World) (p : Nat) (R C : Int) (xs : List Int) (w : World) (v : Value) : Prop where
  bl : Below w0.heap.size w0 w
  p0 : w0.heap.size + 1 ≤ p
  z : w.heap[w0.heap.size]? = some (.cells #[.int .i64 0, .int .i64 0, .slice none 0 0] 28 (0, 0))
  k : w.heap[p]? = some (.cells #[.int .i64 R, .int .i64 C, v] 28 (0, 0))
  own : Own w (w0.heap.size + 1) v xs
  ne : v.ownBlock ≠ some p
theorem RaP.lt {w0 : World} {p : Nat} {R C : Int} {xs : List Int} {w : World} {v : Value} (h : RaP w0 p R C xs w v) : p < w.heap.size := lt_of_block h.k
theorem RaP.below {w0 : World} {p : Nat} {R C : Int} {xs : List Int} {w w' : World} {v : Value} (h : RaP w0 p R C xs w v) (hb : Below w.heap.size w w') : RaP w0 p R C xs w' v := by
  have hl := h.lt
  have hp := h.p0
  have hs := h.bl.size
  exact ⟨h.bl.trans (hb.mono hs), hp, blk_below h.z hb (by omega), blk_below h.k hb hl, h.own.keep hb, h.ne⟩
theorem RaP.drew {w0 : World} {p : Nat} {R C : Int} {xs : List Int} {w : World} {v : Value} (h : RaP w0 p R C xs w v) : RaP w0 p R C xs w.drew v := h.below (Below.refl _ _).drew
theorem RaP.snoc {w0 : World} {p : Nat} {R C : Int} {xs ys : List Int} {w w' : World} {v v' : Value} {o : Obj} (h : RaP w0 p R C xs w v) (ho : Own w' (w0.heap.size + 1) v' ys) (hg : (w.alloc o).grownBy w' v.ownBlock) (hat : v'.ownBlock = v.ownBlock ∨ v'.ownBlock = some (w.alloc o).heap.size) : RaP w0 p R C ys (w'.setCell ⟨p, 2, none⟩ v') v' := by
  have hl := h.lt
  have hp := h.p0
  have hr : ∀ k, v.ownBlock = some k → w0.heap.size + 1 ≤ k := fun k e => (World.ownsRow.lt h.own k e).1
  have hs := hg.size
  rw [World.size_alloc] at hs
  have k1 := (hg.block p (by simp; omega) (fun e => h.ne e.symm)).trans (blk_alloc (u := o) h.k hl)
  have hne : v'.ownBlock ≠ some p := by
    rcases hat with e | e
    · rw [e]; exact h.ne
    · rw [e]; simp; omega
  refine ⟨?_, hp, ?_, blk3_2 (u := v') k1, ?_, hne⟩
  · exact (((h.bl.alloc h.bl.size o).grown hg (by rw [World.size_alloc]; have := h.bl.size; omega) (fun k e => by have := hr k e; omega))).setCell (by simp; omega) _
  · refine blk_other ((hg.block _ (by simp; omega) (fun e => ?_)).trans (blk_alloc h.z (by omega))) (by omega)
    have := hr _ e.symm; omega
  · refine World.ownsRow.kept ho (grown_set (World.grownBy.refl w' (some p)) _) ?_
    cases hv : v'.ownBlock with
    | none => exact .inl rfl
    | some k => exact .inr fun e => hne (hv.trans e)
set_option maxRecDepth 20000 in
set_option maxHeartbeats 4000000 in
theorem raster_any (R C : Nat) (F : FuncId) (fst cap : Array Value) (f : Nat → Nat → Int) (w : World)
    (HF : ∀ r c : Nat, r < R → c < C → ∀ w', Below w.heap.size w w' → Calls Try.prog F (fst ++ (#[.int .i64 r, .int .i64 c] ++ cap)) w' fun e w'' => e = .returned (.int .i64 (f r c)) ∧ Below w'.heap.size w' w'')
    (HEN : ∀ (args : Array Value) (w : World), (callFunc F args).run Try.prog w = .ok (.enter F args) w)
    (hR : R ≤ 400) (hC : C ≤ 400) (hRC : R * C ≤ 40000) :
    Calls Try.prog 56 #[.int .i64 R, .int .i64 C, .func (.func F) fst cap] w fun e w' => ∃ v, e = .returned (.agg #[.int .i64 R, .int .i64 C, v]) ∧ Own w' w.heap.size v (grdL R C f) ∧ Below w.heap.size w w' := by
  obtain ⟨i0, hi⟩ := info_own' info_i64s
  have HI := Lib.hid (And.intro i0.bytes.le_refl hi)
  clear hi
  have HFH := Lib.hid HF
  clear HF
  obtain ⟨N, hN⟩ : ∃ N, R * C = N := ⟨_, rfl⟩
  have e1 : (R : Int) * (C : Int) = (N : Int) := by rw [← hN]; simp
  have hNb : N ≤ 40000 := by omega
  have HN := Lib.hid hN
  have hGl : Hid ((grdL R C f).length = N) := Lib.hid ((grdL_len R C f).trans hN)
  clear hN hRC
  go_enter Try.func56, Try.ntmps56
  go_wp2_with (at_make; refine wpList_make_own (w.alloc (.cells #[.int .i64 0, .int .i64 0, .slice none 0 0] 28)) rfl _ _ 22 rfl (w.heap.size + 1) 2 i0 (.int .i64 0) 1 Try.underlying22 HI.out.2.1 HI.out.2.2.1 HI.out.2.2.2.1 .i64 .i64 (N : Int) N (by rfl) (by rfl) rfl (by rw [HI.out.2.2.2.2]; omega) (by unfold maxLen; omega) (by simp) ?_; intro w1 hown1 hgrow1; have hs1 := hgrow1.size)
  have HB1 : Hid (Below (w.heap.size + 1) (w.alloc (.cells #[.int .i64 0, .int .i64 0, .slice none 0 0] 28)) w1) := Lib.hid ((Below.refl _ _).grown hgrow1 (by simp) (fun k hk => by cases hk))
  simp only [World.size_alloc] at hs1 hown1
  have HP0 : Hid (RaP w w1.heap.size R C [] (w1.alloc (.cells #[.int .i64 R, .int .i64 C, .slice (some ⟨w.heap.size + 1, 0, none⟩) 0 N] 28)) (.slice (some ⟨w.heap.size + 1, 0, none⟩) 0 N)) := Lib.hid ⟨(((by go_grown : Below w.heap.size w (w.alloc (.cells #[.int .i64 0, .int .i64 0, .slice none 0 0] 28))).trans (HB1.out.mono (Nat.le_succ _)))).alloc (by omega) _, hs1, blk_alloc (blk_below (heap_alloc_new _ _) HB1.out (Nat.lt_succ_self _)) (by omega), heap_alloc_new _ _,
    (show Own w1 (w.heap.size + 1) (.slice (some ⟨w.heap.size + 1, 0, none⟩) 0 N) [] by unfold Own; simpa using hown1).keep (by go_grown), fun e => by have := (World.ownsRow.lt hown1 _ e).2; omega⟩
  generalize hp : w1.heap.size = p at *
  have hpw : w.heap.size + 1 ≤ p := hs1
  generalize w1.alloc (.cells #[.int .i64 R, .int .i64 C, .slice (some ⟨w.heap.size + 1, 0, none⟩) 0 N] 28) = w2 at *
  clear hown1 hgrow1 hs1 HB1 hp
  go_wp2_with fail
  go_loopw [8] (fun row wr => ∃ k : Nat, k ≤ R ∧ row = .int .i64 k ∧ Hid (∃ v, RaP w p R C ((grdL R C f).take (k * C)) wr v))
    (fun row _ => R - (intOf row).toNat)
  case atStart => exact ⟨0, Nat.zero_le _, rfl, Lib.hid ⟨_, by simpa using HP0.out⟩⟩
  case round =>
    obtain ⟨k, hk, rfl, hrp⟩ := hrel
    by_cases hlt : k < R
    · have hki : (k : Int) < (R : Int) := by omega
      go_wp2_with fail
      go_loopw [9] (fun col wr => ∃ j : Nat, j ≤ C ∧ col = .int .i64 j ∧ Hid (∃ v, RaP w p R C ((grdL R C f).take (k * C + j)) wr v))
        (fun col _ => C - (intOf col).toNat)
      case atStart => exact ⟨0, Nat.zero_le _, rfl, hrp⟩
      case round =>
        clear hrp
        rename World => wo
        obtain ⟨j, hj, rfl, hrp⟩ := hrel
        by_cases hlt2 : j < C
        · have hji : (j : Int) < (C : Int) := by omega
          obtain ⟨v, hv⟩ := hrp.out
          have HV := Lib.hid hv
          have hlen : k * C + j < (grdL R C f).length := by rw [grdL_len]; exact cell_lt2 hlt hlt2
          have htk := take_nth hlen
          rw [grdL_nth (f := f) hlt hlt2] at htk
          have HT := Lib.hid htk
          have HFK := Lib.hid (fun w' hb => HFH.out k j hlt hlt2 w' hb)
          have hL : ((grdL R C f).take (k * C + j)).length ≤ 40000 := by rw [List.length_take, hGl.out]; omega
          have HLL := Lib.hid hL
          obtain ⟨c0, c1, c2, cf⟩ := blk3 hv.k
          have hpo := hv.lt
          have hBr := hv.bl
          have hzr : w.heap.size < wo.heap.size := by omega
          clear htk hlen hv hrp hL
          generalize f k j = V at *
          go_wp2_with fail
          have hLL := HLL.out
          skip
          obtain ⟨J, hJ⟩ : ∃ J, ((grdL R C f).take (k * C + j)).length = J := ⟨_, rfl⟩
          have hcount : J + 1 ≤ maxLen := by unfold maxLen; omega
          have hJb : J ≤ 40000 := by omega
          have HJ := Lib.hid hJ
          clear hJ hLL
          go_region_law (first
              | (refine step_append_lies _ (by rfl) _ _ 22 (by rfl) (w.heap.size + 1) 2 i0 (.int .i64 0) 1 8 Try.underlying22 HI.out.2.1 HI.out.2.2.1 HI.out.2.2.2.1 HI.out.2.2.2.2 rfl (by decide) v J _ (by rfl) (by have := Own.alloc HV3.out.own (.cells #[.int .i64 V] 2); rw [HJ.out] at this; exact this) ⟨w3.heap.size, 0, none⟩ 1 1 [.int .i64 V] (by rfl) (by rfl) (cell_one_new _ _ _) (one_ok _) (by decide) hcount (by omega) (by simp; omega) (w3.heap.size + 1) (by simp) ?_; intro gg cap wa hoa0 hga hat hlt; have hoa := Lib.hid (Own.snoc (by rw [HJ.out]; exact hoa0)); have hka := Lib.hid ((hga.block p (by simp; omega) (fun e => HV3.out.ne e.symm)).trans (blk_alloc HV3.out.k hz3b)); obtain ⟨y0, y1, y2, yf⟩ := blk3 hka.out; have HFIN := Lib.hid (HV3.out.snoc hoa.out hga (hat.imp (fun e => by rw [e]; rfl) (fun e => by rw [e]; simp [Value.ownBlock]))); clear hoa0 hga hat)
              | (go_simp; (with_reducible refine (HFK.out _ (by (repeat (first | (with_reducible assumption) | (with_reducible exact Below.refl _ _) | (with_reducible refine below_drewN' ?_ _) | (with_reducible refine Below.drew ?_) | ((with_reducible refine Below.alloc ?_ ?_ _); rotate_left; focus (first | (simp; done) | (simp; omega) | omega)) | ((with_reducible refine Below.setCell ?_ ?_ _); rotate_left; focus (first | (simp; done) | (simp; omega) | omega)))))).mono ?_; rintro e3 w3 ⟨rfl, hb3⟩; have hs3 := hb3.size; have hz3b : p < w3.heap.size := (by first | omega | (simp at hs3; omega)); (first | have HV3 := Lib.hid (HV.out.below hb3) | have HV3 := Lib.hid (HV.out.drew.below hb3)); obtain ⟨x0, x1, x2, xf⟩ := blk3 HV3.out.k; clear hb3)))
          all_goals
            go_wp2_with fail
            go_roundw
            case rel => exact ⟨j + 1, by omega, by go_num, Lib.hid ⟨_, by rw [show k * C + (j + 1) = k * C + j + 1 from rfl, HT.out]; exact HFIN.out⟩⟩
            case measure => simp [intOf]; omega
        · have hjn : j = C := by omega
          have hji : ¬ ((j : Int) < (C : Int)) := by omega
          go_wp2_with fail
          go_roundw
          case rel => exact ⟨k + 1, by omega, by go_num, Lib.hid (by have := hrp.out; rwa [show k * C + j = (k + 1) * C from by rw [hjn, Nat.add_mul, Nat.one_mul]] at this)⟩
          case measure => simp [intOf]; omega
    · have hkn : k = R := by omega
      have hki : ¬ ((k : Int) < (R : Int)) := by omega
      obtain ⟨v, hv⟩ := hrp.out
      rw [List.take_of_length_le (by rw [hGl.out, hkn, HN.out]; exact Nat.le_refl _)] at hv
      obtain ⟨c0, c1, c2, cf⟩ := blk3 hv.k
      obtain ⟨z0, z1, z2, zf⟩ := blk3 hv.z
      obtain ⟨A', c', rfl, -⟩ := hv.own.shape
      have HV := Lib.hid hv
      rw [hGl.out] at c2 HV
      obtain ⟨s0, s1, s2⟩ := res3 hv.z (.int .i64 R) (.int .i64 C) (.slice A' N c')
      clear hv hrp
      go_wp2_with fail
      (try simp only [Exit.inBlock, Exit.then]); refine bodyPost_ret (by simp [results, Try.results56, go_sem, s0, s1, s2]; try rfl) rfl ?_
      exact ⟨_, rfl, ((((HV.out.own.setLt (p := ⟨w.heap.size, 0, none⟩) (Nat.lt_succ_self _) _).setLt (p := ⟨w.heap.size, 1, none⟩) (Nat.lt_succ_self _) _).setLt (p := ⟨w.heap.size, 2, none⟩) (Nat.lt_succ_self _) _)).more (Nat.le_succ _), ((HV.out.bl.setCell (Nat.le_refl _) _).setCell (Nat.le_refl _) _).setCell (Nat.le_refl _) _⟩
end Go.Proofs.Ytkipaefhnmfebaa
