/-
  Contracts of chapter 15: PlaceElements, the reference.
-/
import Derived.Test.YteghpageamehkaaC15G
import Derived.Test.YteghpageamehkaaC15C
import Derived.Test.YteghpageamehkaaC15L
import Derived.Test.YteghpageamehkaaC15P
import Derived.Test.YteghpageamehkaaTk
namespace Go.Proofs.Yteghpageamehkaa
set_option linter.unusedSimpArgs false
open Go.RowKit

set_option maxRecDepth 20000 in
set_option maxHeartbeats 4000000 in
theorem l15Place_any (N K : Nat) (A : Option Addr) (L cp : Nat) (es : List Int) (w : World) (B : Nat) (hN : 17 ≤ N ∧ N ≤ 41 ∧ N % 4 = 1) (hK1 : 1 ≤ K) (hK2 : K ≤ 8) (hr : RI w B A L es) (hB : B ≤ w.heap.size) (hL : L ≤ 1100000) (hv : ∀ k, k < L → 0 ≤ nth es k ∧ nth es k ≤ 255) :
    Calls Try.prog 61 #[.int .i64 N, .int .i64 K, .slice A L cp] w fun e w' =>
      ∃ u, e = .returned (.agg #[.int .i64 N, .int .i64 N, u]) ∧ Own w' w.heap.size u (setL N (dataL N) (bitAt K es) (fixL N) (dataL N).length) ∧ Below w.heap.size w w' := by
  have HR := Lib.hid (hr.more hB)
  have hlen := hr.len
  have HE := Lib.hid hlen
  have HZ0 := Lib.hid (show (w.alloc (.cells #[.int .i64 0, .int .i64 0, .slice none 0 0] 37)).heap[w.heap.size]? = some (.cells #[.int .i64 0, .int .i64 0, .slice none 0 0] 37 (0, 0)) from heap_alloc_new _ _)
  have h1 := hN.1
  have h2 := hN.2.1
  have hNN : N * N ≤ 1681 := Nat.mul_le_mul h2 h2
  have hN0 : 0 < N * N := Nat.mul_pos (by omega) (by omega)
  have HD := Lib.hid (fun w => l15Places_any N w hN)
  have HFX := Lib.hid (fun w => l14Grid_any N w hN)
  have HFL := Lib.hid (fixL_len N)
  have HIN := Lib.hid (data_in4 hN)
  have hMx := dataL_le h2
  have hM0 := data_pos hN
  have HV := Lib.hid hv
  obtain ⟨ps, hps⟩ : ∃ ps, dataL N = ps := ⟨_, rfl⟩
  have HD : Hid (∀ w, Calls Try.prog 59 #[.int .i64 N] w fun e w' => ∃ v, e = .returned v ∧ OwnP w' w.heap.size v ps ∧ Below w.heap.size w w') := Lib.hid (by rw [← hps]; exact HD.out)
  rw [hps] at HIN hMx hM0
  simp only [hps]
  obtain ⟨M, hMM⟩ : ∃ M, ps.length = M := ⟨_, rfl⟩
  have HLP := Lib.hid hMM
  rw [hMM] at hMx hM0
  simp only [hMM]
  obtain ⟨i0, hi⟩ := info_own' info_i64s
  have HI := Lib.hid (And.intro i0.bytes.le_refl hi)
  obtain ⟨bs, hbs⟩ : ∃ bs, bitAt K es = bs := ⟨_, rfl⟩
  obtain ⟨fx, hfx⟩ : ∃ fx, fixL N = fx := ⟨_, rfl⟩
  have HBA : Hid (∀ i, bs i = if i / K < L then (((nth es (i / K)).toNat / 2 ^ (K - 1 - i % K) % 2 : Nat) : Int) else 0) := Lib.hid (fun i => by
    rw [← hbs]; unfold bitAt; rw [HE.out]
    by_cases h : i / K < L
    · have h' : i < L * K := (Nat.div_lt_iff_lt_mul (by omega)).1 h
      rw [if_pos h, decide_eq_true h', ← nth_bitsF hK1 (by rw [HE.out]; exact h')]; rfl
    · have h' : ¬ i < L * K := fun x => h ((Nat.div_lt_iff_lt_mul (by omega)).2 x)
      rw [if_neg h, decide_eq_false h']; rfl)
  have HFX : Hid (∀ w, Calls Try.prog 81 #[.int .i64 N] w fun e w' => ∃ v, e = .returned (.agg #[.int .i64 N, .int .i64 N, v]) ∧ Own w' w.heap.size v fx ∧ Below w.heap.size w w') := Lib.hid (by rw [← hfx]; exact HFX.out)
  have HFL : Hid (fx.length = N * N) := Lib.hid (by rw [← hfx]; exact HFL.out)
  simp only [hbs, hfx]
  have hK0 : ¬ K = 0 := by omega
  clear hbs hfx hps hMM hN hi hr hlen hv
  go_enter Try.func61, Try.ntmps61
  go_wp2_with fail
  (go_at_call 81; with_reducible refine (HFX.out _).mono ?_; rintro e1 w1 ⟨v1, rfl, ho1, hb1⟩)
  have hs1 := hb1.size
  simp only [World.size_alloc] at hs1
  obtain ⟨g1, c1, rfl, hg1, hg1w, -, -⟩ := ho1.row (by rw [HFL.out]; exact hN0)
  rw [HFL.out] at ho1 ⊢
  have HZ1 := Lib.hid (blk_below HZ0.out hb1 (by simp))
  have HX1 : Hid ((w1.alloc (.cells #[.int .i64 (N : Int), .int .i64 (N : Int), .slice (some ⟨g1, 0, none⟩) (N * N) c1] 37)).heap[w1.heap.size]? = some (.cells #[.int .i64 (N : Int), .int .i64 (N : Int), .slice (some ⟨g1, 0, none⟩) (N * N) c1] 37 (0, 0))) := Lib.hid (heap_alloc_new _ _)
  have HR1 : Hid (RI (w1.alloc (.cells #[.int .i64 (N : Int), .int .i64 (N : Int), .slice (some ⟨g1, 0, none⟩) (N * N) c1] 37)) w1.heap.size (some ⟨g1, 0, none⟩) (N * N) fx) := Lib.hid ((ho1.ri HFL.out).alloc (Nat.le_refl _) _)
  have HB1 : Hid (Below w.heap.size w (w1.alloc (.cells #[.int .i64 (N : Int), .int .i64 (N : Int), .slice (some ⟨g1, 0, none⟩) (N * N) c1] 37))) := Lib.hid ((((Below.refl _ _).alloc (Nat.le_refl _) _).trans (hb1.mono (by simp))).alloc (by omega) _)
  have HZ2 := Lib.hid (blk_alloc (u := .cells #[.int .i64 (N : Int), .int .i64 (N : Int), .slice (some ⟨g1, 0, none⟩) (N * N) c1] 37) HZ1.out (by omega))
  obtain ⟨y0, y1, y2, -⟩ := blk3 HX1.out
  clear ho1 hb1
  go_wp2_with fail
  (go_at_call 83; with_reducible refine (l01Own_any g1 0 (N * N) c1 fx _ w1.heap.size HR1.out hN0 (by omega)).mono ?_; rintro e2 w2 ⟨v2, rfl, ho2, hb2⟩)
  have hs2 := hb2.size
  simp only [World.size_alloc] at hs2
  obtain ⟨h, c2, rfl, hhB, hhw, -, -⟩ := ho2.row (by rw [HFL.out]; exact hN0)
  simp only [World.size_alloc] at hhB
  rw [HFL.out] at ho2 ⊢
  have HZ3 := Lib.hid (blk_below HZ2.out hb2 (by simp; omega))
  have HO2 := Lib.hid (ho2.more (B' := w1.heap.size + 1) (by simp))
  have HB2 := Lib.hid (HB1.out.trans (hb2.mono (by simp; omega)))
  clear ho2 hb2 y0 y1 y2
  go_wp2_with fail
  (go_at_call 59; with_reducible refine (HD.out _).mono ?_; rintro e3 w3 ⟨v3, rfl, ho3, hb3⟩)
  have hs3 := hb3.size
  obtain ⟨gp, c3, rfl, hgp, hgp3, -⟩ := ho3.cells (by rw [HLP.out]; exact hM0)
  rw [HLP.out] at ho3 ⊢
  have HPL := Lib.hid ho3
  have HZ4 := Lib.hid (blk_below HZ3.out hb3 (by omega))
  have HO3 := Lib.hid (HO2.out.keep hb3)
  have HB3 := Lib.hid (HB2.out.trans (hb3.mono (by omega)))
  have HFLx := Lib.hid (fun i => (setL_len N ps bs fx i).trans HFL.out)
  clear ho3 hb3
  go_wp2_with fail
  go_loopw [10, 11] (fun q q1 wr => ∃ i : Nat, i ≤ M ∧ q = .int .i64 i ∧ Hid (Own wr (w1.heap.size + 1) (.slice (some ⟨h, 0, none⟩) (N * N) c2) (setL N ps bs fx i)) ∧ Hid (w3.grownBy wr (some h)))
    (fun q _ _ => M - (intOf q).toNat)
  case atStart => exact ⟨0, Nat.zero_le _, rfl, HO3, Lib.hid (World.grownBy.refl _ _)⟩
  case round =>
    obtain ⟨i, hi, rfl, hown, hgr⟩ := hrel
    have hsr := hgr.out.size
    by_cases hlt : i < M
    · have hk2 : i < ps.length := by rw [HLP.out]; exact hlt
      obtain ⟨p0, p1⟩ := OwnP.cellsNe HPL.out HLP.out (by omega) hgr.out (fun e => by have : gp = h := Option.some.inj e; omega) i hlt
      have hpin := HIN.out _ (nthP_mem hk2)
      obtain ⟨hia, hib⟩ := idxP_lt hpin
      have hst := Lib.hid (show setL N ps bs fx (i + 1) = (setL N ps bs fx i).set (idxP N (nthP ps i)) (bs i) from rfl)
      have hcl := HFLx.out i
      obtain ⟨cur, hcur⟩ : ∃ cur, setL N ps bs fx i = cur := ⟨_, rfl⟩
      rw [hcur] at hown hst hcl
      generalize nthP ps i = p at p0 p1 hpin hia hib hst
      obtain ⟨pr, pc⟩ := p
      simp only at p0 p1 hpin hib
      generalize idxP N (pr, pc) = X at hia hib hst
      have HCL := Lib.hid hcl
      obtain ⟨g', c', e', hB', hg', hc', hf'⟩ := hown.out.row (by rw [HCL.out]; omega)
      obtain ⟨rfl, rfl⟩ : h = g' ∧ c2 = c' := by
        simp only [Value.slice.injEq, Option.some.injEq, Addr.mk.injEq, and_true] at e'
        exact ⟨e'.1, e'.2.2⟩
      have hdk := hc' X (by rw [HCL.out]; exact hia)
      have hfk := hf' X
      have wA1 : IntKind.i64.wrap (pr * N) = pr * N := i64_in (by omega)
      have wA2 : IntKind.i64.wrap (pr * N + pc) = X := by rw [hib]; exact i64_in (by omega)
      have wA3 : IntKind.i64.wrap (X : Int) = X := i64_in (by omega)
      have vA : (X : Int) < (N : Int) * N := by
        have : (X : Int) < ((N * N : Nat) : Int) := by omega
        simpa using this
      have hz0 : w.heap.size < wr.heap.size := by omega
      have hzg : gp < wr.heap.size := by omega
      have hzh : h < wr.heap.size := by omega
      obtain ⟨E, hE⟩ : ∃ E, i / K = E := ⟨_, rfl⟩
      obtain ⟨J, hJ⟩ : ∃ J, i % K = J := ⟨_, rfl⟩
      have hJK : J < K := by rw [← hJ]; exact Nat.mod_lt _ (by omega)
      have hEi : E ≤ i := by rw [← hE]; exact Nat.div_le_self _ _
      have hEw : IntKind.i64.wrap ((i : Int) / K) = (E : Int) := by rw [← hE, ← Int.natCast_ediv, hE]; exact i64_in (by omega)
      have hJw : (i : Int) % K = (J : Int) := by rw [← hJ, ← Int.natCast_emod]
      have hbi := HBA.out i
      rw [hE, hJ] at hbi
      clear hcur hcl hk2 hE hJ hc' hf' e'
      by_cases hEL : E < L
      · rw [if_pos hEL] at hbi
        have hEL' : (E : Int) < L := by omega
        obtain ⟨b, o, rfl, hb, hc⟩ := HR.out.cells (by omega)
        have hbr : b < wr.heap.size := by omega
        have hck := ((HB3.out.grown hgr.out (by omega) (fun k hk => by cases hk; omega)).cell (p := ⟨b, o + E, none⟩) hb).trans (hc E hEL)
        have hxv := HV.out E hEL
        generalize nth es E = x at hck hxv hbi
        obtain ⟨x, rfl⟩ := Int.eq_ofNat_of_zero_le hxv.1
        rw [Int.toNat_natCast] at hbi
        obtain ⟨S, hS⟩ : ∃ S, K - 1 - J = S := ⟨_, rfl⟩
        have hSi : (K : Int) - 1 - J = (S : Int) := by omega
        have hSK : S ≤ 8 := by omega
        rw [hS] at hbi
        have hbit := i64_bit x S (by omega)
        rw [← hbi] at hbit
        have hbb : bs i = 0 ∨ bs i = 1 := by rw [hbi]; omega
        have HBI := Lib.hid hbi
        generalize bs i = bb at hst hbit hbb HBI
        clear hbi hc hS
        go_wp2_with fail
        go_quiet (fail)
        go_wp2_with fail
        have hgd := Lib.hid (grown_drewN hgr.out nq)
        have hod := Lib.hid (hown.out.drewN nq)
        have p0' : (wr.drewN nq).cell? ⟨gp, i * 2, none⟩ = some (.int .i64 pr) := p0
        have p1' : (wr.drewN nq).cell? ⟨gp, i * 2 + 1, none⟩ = some (.int .i64 pc) := p1
        have hdk' : (wr.drewN nq).cell? ⟨h, X, none⟩ = some (.int .i64 (nth cur X)) := hdk
        have hfk' : (wr.drewN nq).frozen? ⟨h, X, none⟩ = false := hfk
        have hy0 : w.heap.size < (wr.drewN nq).heap.size := hz0
        have hyg : gp < (wr.drewN nq).heap.size := hzg
        have hyh : h < (wr.drewN nq).heap.size := hzh
        have hsd : w3.heap.size ≤ (wr.drewN nq).heap.size := hsr
        generalize wr.drewN nq = wd at hgd hod p0' p1' hdk' hfk' hy0 hyg hyh hsd ⊢
        clear p0 p1 hdk hfk
        refine wp_region_qat [] 16 [] (by kernel_rfl) (by kernel_rfl) ?_
        intro hbc
        simp only [List.take_succ_cons, List.take_zero, List.drop_succ_cons, List.drop_zero]
        repeat (first
          | refine wpQ_pass rfl ?_
          | (refine wpQ_step rfl (fun K hK => ?_)
             go_simp
             first
               | (refine hK _ ?_; clear hK K)))
        refine wpQ_nil ⟨?_, ?_⟩
        · exact rfl
        intro  w6 hb6 hF6
        clear hbc
        obtain ⟨hc6, hf6⟩ := bcell hb6
        clear hF6
        try simp only [Act.put, List.setIfInBounds_toArray, List.set_cons_succ, List.set_cons_zero]
        have HO6 := Lib.hid (hod.out.keep hb6)
        have HG6 := Lib.hid (show w3.grownBy w6 (some h) from ⟨hb6.os.trans hgd.out.os, hb6.tape.trans hgd.out.tape, hb6.output.trans hgd.out.output, by have := hb6.size; omega, fun k hk hne => (hb6.block k (by omega)).trans (hgd.out.block k hk hne)⟩)
        go_wp2_with fail
        go_roundw
        case rel => exact ⟨i + 1, by omega, by go_num, Lib.hid (by rw [hst.out]; exact Own.setn HCL.out HO6.out), Lib.hid (grown_set HG6.out _)⟩
        case measure => simp [intOf]; omega
      · rw [if_neg hEL] at hbi
        have hEL' : ¬ (E : Int) < L := by omega
        have HBI := Lib.hid hbi
        clear hbi
        go_wp2_with fail
        refine wp_region_qat [] 16 [] (by kernel_rfl) (by kernel_rfl) ?_
        intro hbc
        simp only [List.take_succ_cons, List.take_zero, List.drop_succ_cons, List.drop_zero]
        repeat (first
          | refine wpQ_pass rfl ?_
          | (refine wpQ_step rfl (fun K hK => ?_)
             go_simp
             first
               | (refine hK _ ?_; clear hK K)))
        refine wpQ_nil ⟨?_, ?_⟩
        · exact rfl
        intro  w6 hb6 hF6
        clear hbc
        obtain ⟨hc6, hf6⟩ := bcell hb6
        clear hF6
        try simp only [Act.put, List.setIfInBounds_toArray, List.set_cons_succ, List.set_cons_zero]
        have HO6 := Lib.hid (hown.out.keep hb6)
        have HG6 := Lib.hid (show w3.grownBy w6 (some h) from ⟨hb6.os.trans hgr.out.os, hb6.tape.trans hgr.out.tape, hb6.output.trans hgr.out.output, by have := hb6.size; omega, fun k hk hne => (hb6.block k (by omega)).trans (hgr.out.block k hk hne)⟩)
        go_wp2_with fail
        go_roundw
        case rel => exact ⟨i + 1, by omega, by go_num, Lib.hid (by rw [hst.out, HBI.out]; exact Own.setn HCL.out HO6.out), Lib.hid (grown_set HG6.out _)⟩
        case measure => simp [intOf]; omega
    · obtain rfl : i = M := by omega
      have HZr := Lib.hid ((hgr.out.block w.heap.size (by omega) (fun e => by have : w.heap.size = h := Option.some.inj e; omega)).trans HZ4.out)
      obtain ⟨z0, z1, z2, zf⟩ := blk3 HZr.out
      obtain ⟨s0, s1, s2⟩ := res3 HZr.out (.int .i64 (N : Int)) (.int .i64 (N : Int)) (.slice (some ⟨h, 0, none⟩) (N * N) c2)
      have HBr : Hid (Below w.heap.size w wr) := Lib.hid (HB3.out.grown hgr.out (by omega) (fun k hk => by cases hk; omega))
      have HF := Lib.hid hown.out
      have hz1 : w.heap.size < w1.heap.size + 1 := by omega
      clear hgr hsr HZr
      go_wp2_with fail
      (try simp only [Exit.inBlock, Exit.then]); refine bodyPost_ret (by simp [results, Try.results61, go_sem, s0, s1, s2]; try rfl) rfl ?_
      exact ⟨_, rfl, ((((HF.out.setLt (p := ⟨w.heap.size, 0, none⟩) hz1 _).setLt (p := ⟨w.heap.size, 1, none⟩) hz1 _).setLt (p := ⟨w.heap.size, 2, none⟩) hz1 _)).more (Nat.le_of_lt hz1),
        ((HBr.out.setCell (Nat.le_refl _) _).setCell (Nat.le_refl _) _).setCell (Nat.le_refl _) _⟩
end Go.Proofs.Yteghpageamehkaa
