/-
  The program's grid whose cells are told by a function value.
-/
import Derived.Test.YtflpllmbpfdnjaaC26G
import Derived.Test.YtflpllmbpfdnjaaC14B
import Derived.Deep.RegionHeld3
namespace Go.Proofs.Ytflpllmbpfdnjaa
set_option linter.unusedSimpArgs false
open Go.RowKit Go.Deep

theorem grdL_mix {R C i : Nat} {f : Nat → Nat → Int} {old : List Int} (hl : old.length = R * C) (hi : i < R * C) :
    ((grdL R C f).take i ++ old.drop i).set i (f (i / C) (i % C)) = (grdL R C f).take (i + 1) ++ old.drop (i + 1) := by
  have h := set_mix (xs := old) (ys := grdL R C f) (k := i) (by rw [grdL_len, hl]) (by omega)
  rwa [show nth (grdL R C f) i = f (i / C) (i % C) from by rw [nth_lt (by rw [grdL_len]; exact hi)]; simp [grdL]] at h
theorem div_lt2 {R C i : Nat} (hi : i < R * C) : i / C < R ∧ i % C < C := by
  have hC : 0 < C := by
    rcases Nat.eq_zero_or_pos C with h | h
    · subst h; simp at hi
    · exact h
  exact ⟨Nat.div_lt_of_lt_mul (by rwa [Nat.mul_comm] at hi), Nat.mod_lt _ hC⟩
theorem i64_inH {n : Int} (h : -9223372036854775808 ≤ n ∧ n ≤ 9223372036854775807) : IntKind.i64.wrap n = n := by
  rw [IntKind.wrap_i64]; omega
theorem below_blurH {B : Nat} {w W : World} (h : Below B w W) (hB : B ≤ W.heap.size) (z : Blur W) : Below B w (blur z) := h.trans (z.below.mono hB)
theorem grown_bH {a w w' : World} {r : Option Nat} (h : a.grownBy w r) (hb : Below w.heap.size w w') : a.grownBy w' r :=
  ⟨hb.os.trans h.os, hb.tape.trans h.tape, hb.output.trans h.output, Nat.le_trans h.size hb.size, fun j hj hne => (hb.block j (Nat.lt_of_lt_of_le hj h.size)).trans (h.block j hj hne)⟩
set_option maxRecDepth 20000 in
set_option maxHeartbeats 4000000 in
theorem grid_any (pr pc : Int) (A : Option Addr) (n cp : Nat) (m0 m1 m2 m3 m4 m5 m6 m7 m8 : Int) (R C : Nat) (lim mar : Int) (F : FuncId) (fst cap : Array Value) (f : Nat → Nat → Int) (w : World)
    (HEN : ∀ (args : Array Value) (w : World), (callFunc F args).run Try.prog w = .ok (.enter F args) w)
    (HF : ∀ r c : Nat, r < R → c < C → ∀ w', Below w.heap.size w w' → Calls Try.prog F (fst ++ (#[.int .i64 r, .int .i64 c] ++ cap)) w' fun e w'' => e = .returned (.int .i64 (f r c)) ∧ Below w'.heap.size w' w'')
    (hR : R ≤ 3500) (hC : C ≤ 3500) (hRC : R * C ≤ 3500) :
    Calls Try.prog 52 #[.agg #[.int .i64 pr, .int .i64 pc, .slice A n cp, .int .i64 m0, .int .i64 m1, .int .i64 m2, .int .i64 m3, .int .i64 m4, .int .i64 m5, .int .i64 m6, .int .i64 m7, .int .i64 m8, .int .i64 R, .int .i64 C, .int .i64 lim, .int .i64 mar], .func (.func F) fst cap] w fun e w' => ∃ v, e = .returned (.agg #[.int .i64 R, .int .i64 C, v]) ∧ Own w' w.heap.size v (grdL R C f) ∧ Below w.heap.size w w' := by
  have HFH := Lib.hid HF
  clear HF
  obtain ⟨N, hN⟩ : ∃ N, R * C = N := ⟨_, rfl⟩
  have HBL := Lib.hid (fun w => blank_any R C N 0 w hN (by omega))
  have HN := Lib.hid hN
  have hNb : N ≤ 3500 := by omega
  clear hN hRC
  have HS0 := Lib.hid (show ((w.alloc (.cells #[.int .i64 pr, .int .i64 pc, .slice A n cp, .int .i64 m0, .int .i64 m1, .int .i64 m2, .int .i64 m3, .int .i64 m4, .int .i64 m5, .int .i64 m6, .int .i64 m7, .int .i64 m8, .int .i64 R, .int .i64 C, .int .i64 lim, .int .i64 mar] 80)).alloc (.cells #[.int .i64 0, .int .i64 0, .slice none 0 0] 41)).heap[w.heap.size]? = some (.cells #[.int .i64 pr, .int .i64 pc, .slice A n cp, .int .i64 m0, .int .i64 m1, .int .i64 m2, .int .i64 m3, .int .i64 m4, .int .i64 m5, .int .i64 m6, .int .i64 m7, .int .i64 m8, .int .i64 R, .int .i64 C, .int .i64 lim, .int .i64 mar] 80 (0, 0)) by (repeat (first | (with_reducible exact heap_alloc_new _ _) | (rw [heap_drew1]) | (rw [heap_drewN1]) | (rw [Below.heap_setCell _ _ _ _ (by first | omega | (simp; done) | (simp; omega))]) | (rw [Below.heap_alloc _ _ _ (by first | omega | (simp; done) | (simp; omega))]) | (exact heap_alloc_at (by first | omega | (simp; done) | (simp; omega))))))
  have HZ0 := Lib.hid (show ((w.alloc (.cells #[.int .i64 pr, .int .i64 pc, .slice A n cp, .int .i64 m0, .int .i64 m1, .int .i64 m2, .int .i64 m3, .int .i64 m4, .int .i64 m5, .int .i64 m6, .int .i64 m7, .int .i64 m8, .int .i64 R, .int .i64 C, .int .i64 lim, .int .i64 mar] 80)).alloc (.cells #[.int .i64 0, .int .i64 0, .slice none 0 0] 41)).heap[w.heap.size + 1]? = some (.cells #[.int .i64 0, .int .i64 0, .slice none 0 0] 41 (0, 0)) by (repeat (first | (with_reducible exact heap_alloc_new _ _) | (rw [heap_drew1]) | (rw [heap_drewN1]) | (rw [Below.heap_setCell _ _ _ _ (by first | omega | (simp; done) | (simp; omega))]) | (rw [Below.heap_alloc _ _ _ (by first | omega | (simp; done) | (simp; omega))]) | (exact heap_alloc_at (by first | omega | (simp; done) | (simp; omega))))))
  go_enter Try.func52, Try.ntmps52
  go_wp2_with fail
  (go_at_call 86; go_call (HBL.out _) as e1 w1 ⟨u1, rfl, ho1, hb1⟩; obtain ⟨hc1, hf1⟩ := bcell hb1; have hB1 : Below w.heap.size w w1 := (below_then (by first | (go_grown; done) | (repeat (first | (with_reducible assumption) | (with_reducible exact Below.refl _ _) | (with_reducible refine below_drewN' ?_ _) | (with_reducible refine Below.drew ?_) | ((with_reducible refine Below.alloc ?_ ?_ _); rotate_left; focus (first | (simp; done) | (simp; omega) | omega)) | ((with_reducible refine Below.setCell ?_ ?_ _); rotate_left; focus (first | (simp; done) | (simp; omega) | omega))))) (by first | omega | (simp; done) | (simp; omega)) hb1); have hz1a : w.heap.size < w1.heap.size := (by have := hb1.size; first | omega | (simp at this; omega)); have hz1b : w.heap.size + 1 < w1.heap.size := (by have := hb1.size; first | omega | (simp at this; omega)))
  have hs1 := hb1.size
  simp only [World.size_alloc] at hs1 ho1
  have HS1 := Lib.hid (blk_below HS0.out hb1 (by simp; try omega))
  have HZ1 := Lib.hid (blk_below HZ0.out hb1 (by simp; try omega))
  obtain ⟨A1, c1, rfl, hr1⟩ := ho1.shape
  rw [List.length_replicate] at ho1 hr1 ⊢
  have HG1 := Lib.hid (heap_alloc_new w1 (.cells #[.int .i64 R, .int .i64 C, .slice A1 N c1] 41))
  have HS2 := Lib.hid (blk_alloc (u := .cells #[.int .i64 R, .int .i64 C, .slice A1 N c1] 41) HS1.out hz1a)
  have HZ2 := Lib.hid (blk_alloc (u := .cells #[.int .i64 R, .int .i64 C, .slice A1 N c1] 41) HZ1.out hz1b)
  have HO1 := Lib.hid (ho1.keep ((Below.refl _ _).alloc (Nat.le_refl _) (.cells #[.int .i64 R, .int .i64 C, .slice A1 N c1] 41)))
  have HOL := Lib.hid (World.ownsRow.lt ho1)
  have HB2 := Lib.hid (hB1.alloc (Nat.le_of_lt hz1a) (.cells #[.int .i64 R, .int .i64 C, .slice A1 N c1] 41))
  have hw2s : (w1.alloc (.cells #[.int .i64 R, .int .i64 C, .slice A1 N c1] 41)).heap.size = w1.heap.size + 1 := by simp
  clear hc1 hf1 hb1 hB1 ho1 hr1 HS1 HZ1 HS0 HZ0
  go_wp2_with fail
  generalize w1.alloc (.cells #[.int .i64 R, .int .i64 C, .slice A1 N c1] 41) = w2 at *
  go_loopw [6, 17] (fun q i wr => ∃ k : Nat, k ≤ N ∧ i = .int .i64 k ∧ Hid (Own wr (w.heap.size + 1 + 1) (.slice A1 N c1) ((grdL R C f).take k ++ (List.replicate N (0 : Int)).drop k)) ∧ Hid (w2.grownBy wr (Value.ownBlock (.slice A1 N c1))))
    (fun _ i _ => N - (intOf i).toNat)
  case atStart => exact ⟨0, Nat.zero_le _, rfl, Lib.hid (by simpa using HO1.out), Lib.hid (World.grownBy.refl _ _)⟩
  case round =>
    obtain ⟨k, hk, rfl, hown, hgr⟩ := hrel
    have hsr := hgr.out.size
    have hnb : ∀ j, (j ≤ w.heap.size + 1 ∨ j = w1.heap.size) → some j ≠ Value.ownBlock (.slice A1 N c1) := fun j hj e => by have := HOL.out j e.symm; omega
    have HGr := Lib.hid ((hgr.out.block w1.heap.size (by omega) (hnb _ (.inr rfl))).trans HG1.out)
    have HZr := Lib.hid ((hgr.out.block (w.heap.size + 1) (by omega) (hnb _ (.inl (Nat.le_refl _)))).trans HZ2.out)
    have HSr := Lib.hid ((hgr.out.block w.heap.size (by omega) (hnb _ (.inl (Nat.le_succ _)))).trans HS2.out)
    have hlm : ((grdL R C f).take k ++ (List.replicate N (0 : Int)).drop k).length = N := by
      rw [List.length_append, List.length_take, List.length_drop, grdL_len, List.length_replicate, HN.out]; omega
    have HLM := Lib.hid hlm
    clear hlm
    obtain ⟨y0, y1, y2, -⟩ := blk3 HGr.out
    obtain ⟨-, -, -, -, -, -, -, -, -, -, -, -, p12, p13, -, -, -⟩ := blk16 HSr.out
    by_cases hlt : k < N
    · have hBr : Below w.heap.size w wr := HB2.out.grown hgr.out (by omega) (fun j e => by have := HOL.out j e; omega)
      have hzr : w.heap.size < wr.heap.size := by omega
      have hzg : w1.heap.size < wr.heap.size := by omega
      obtain ⟨d1, d2⟩ := div_lt2 (R := R) (C := C) (i := k) (by rw [HN.out]; exact hlt)
      have hmix := grdL_mix (f := f) (old := List.replicate N (0 : Int)) (i := k) (R := R) (C := C) (by rw [List.length_replicate, HN.out]) (by rw [HN.out]; exact hlt)
      have HMX := Lib.hid hmix
      have HFK := Lib.hid (fun w' hb => HFH.out (k / C) (k % C) d1 d2 w' hb)
      have q1 : ((k : Int) / (C : Int)) = ((k / C : Nat) : Int) := by simp
      have q2 : ((k : Int) % (C : Int)) = ((k % C : Nat) : Int) := by simp
      have q3 : ((k : Int).tdiv (C : Int)) = ((k / C : Nat) : Int) := by rw [Int.tdiv_eq_ediv_of_nonneg (by omega)]; exact q1
      have q4 : ((k : Int).tmod (C : Int)) = ((k % C : Nat) : Int) := by rw [Int.tmod_eq_emod_of_nonneg (by omega)]; exact q2
      have hCz : ¬ ((C : Int) = 0) := by omega
      have hCn : ¬ (C = 0) := by omega
      clear hmix
      generalize k / C = Q at *
      generalize k % C = M at *
      generalize f Q M = V at *
      have wQ : IntKind.i64.wrap (Q : Int) = (Q : Int) := i64_inH (by omega)
      have wM : IntKind.i64.wrap (M : Int) = (M : Int) := i64_inH (by omega)
      have hlk := HLM.out
      obtain ⟨g, c', e', hB', hg', hcc, hff⟩ := hown.out.row (by rw [hlk]; omega)
      rw [hlk] at e' hcc
      simp only [Value.slice.injEq, and_true, true_and] at e'
      obtain ⟨rfl, rfl⟩ := e'
      have hck := hcc k hlt
      have hfk := hff k
      have hki : (k : Int) < (N : Int) := by omega
      clear hcc hff hlk HN
      go_wp2_with fail
      refine wp_region_qat [] 16 [] (by kernel_rfl) (by kernel_rfl) ?_
      intro hbc
      simp only [List.take_succ_cons, List.take_zero, List.drop_succ_cons, List.drop_zero]
      repeat (first
        | refine wpQ_pass rfl ?_
        | (refine wpQ_step rfl (fun K hK => ?_)
           go_simp
           first
             | (refine hK _ ?_; clear hK K)
             | (apply Exists.intro
                refine ⟨fun z => ?_, ?_⟩
                focus (first | (with_reducible exact HFK.out _ (below_blurH hBr (Nat.le_of_lt hzr) _)))
                refine hK _ ?_
                clear hK K)))
      refine wpQ_nil ⟨?_, ?_⟩
      · exact rfl
      intro  w3 hb3 hF3
      clear hbc
      obtain ⟨hc3, hf3⟩ := bcell hb3
      have hB3 : Below w.heap.size w w3 := below_then (by first | (go_grown; done) | (repeat (first | (with_reducible assumption) | (with_reducible exact Below.refl _ _) | (with_reducible refine below_drewN' ?_ _) | (with_reducible refine Below.drew ?_) | ((with_reducible refine Below.alloc ?_ ?_ _); rotate_left; focus (first | (simp; done) | (simp; omega) | omega)) | ((with_reducible refine Below.setCell ?_ ?_ _); rotate_left; focus (first | (simp; done) | (simp; omega) | omega))))) (by first | (simp; done) | (simp; omega) | omega) hb3
      have hz3a : w.heap.size < w3.heap.size := (by have := hb3.size; first | omega | (simp at this; omega))
      clear hF3
      try simp only [Act.put, List.setIfInBounds_toArray, List.set_cons_succ, List.set_cons_zero]
      have HO3 := Lib.hid (hown.out.keep hb3)
      have HG3 : Hid (w2.grownBy w3 (some g)) := Lib.hid (grown_bH hgr.out hb3)
      go_wp2_with fail
      go_roundw
      case rel => exact ⟨k + 1, by omega, by go_num, Lib.hid (by have := Own.setn (k := k) (u := V) HLM.out HO3.out; rw [HMX.out] at this; exact this), Lib.hid (grown_set HG3.out _)⟩
      case measure => simp [intOf]; omega
    · obtain rfl : k = N := by omega
      have hfin := hown.out
      rw [List.take_of_length_le (by rw [grdL_len, HN.out]; exact Nat.le_refl _), List.drop_of_length_le (by rw [List.length_replicate]; exact Nat.le_refl _), List.append_nil] at hfin
      have HF := Lib.hid hfin
      have HBr : Hid (Below w.heap.size w wr) := Lib.hid (HB2.out.grown hgr.out (by omega) (fun j e => by have := HOL.out j e; omega))
      obtain ⟨z0, z1, z2, zf⟩ := blk3 HZr.out
      obtain ⟨s0, s1, s2⟩ := res3 HZr.out (.int .i64 R) (.int .i64 C) (.slice A1 k c1)
      have hzz : w.heap.size + 1 < w.heap.size + 1 + 1 := Nat.lt_succ_self _
      clear hfin p12 p13 HSr HGr
      go_wp2_with fail
      (try simp only [Exit.inBlock, Exit.then]); refine bodyPost_ret (by simp [results, Try.results52, go_sem, s0, s1, s2]; try rfl) rfl ?_
      exact ⟨_, rfl, ((((HF.out.setLt hzz _).setLt hzz _).setLt hzz _)).more (by omega), ((HBr.out.setCell (Nat.le_succ _) _).setCell (Nat.le_succ _) _).setCell (Nat.le_succ _) _⟩
end Go.Proofs.Ytflpllmbpfdnjaa
