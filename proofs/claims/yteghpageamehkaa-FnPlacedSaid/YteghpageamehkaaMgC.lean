/-
  Contracts of chapter 15: PlaceElements, the reference's outer function.
-/
import Derived.Test.YteghpageamehkaaMgA
import Derived.Test.YteghpageamehkaaC14A
import Derived.Test.YteghpageamehkaaC14K
import Derived.Test.YteghpageamehkaaC14T
import Derived.Test.YteghpageamehkaaC15D
import Derived.Test.YteghpageamehkaaC15C
import Derived.Test.YteghpageamehkaaC15L
import Derived.Test.YteghpageamehkaaC15P
namespace Go.Proofs.Yteghpageamehkaa
set_option linter.unusedSimpArgs false
open Go.RowKit

theorem pow8 {K : Nat} (h : K ≤ 8) : 1 ≤ 2 ^ K ∧ 2 ^ K ≤ 256 := by
  refine ⟨Nat.one_le_two_pow, ?_⟩
  have := Nat.pow_le_pow_right (n := 2) (by decide) h
  simpa using this
set_option maxRecDepth 20000 in
set_option maxHeartbeats 4000000 in
theorem PlaceElements_any (n d : Int) (A : Option Addr) (L cp : Nat) (es : List Int) (w : World) (B : Nat) (hr : RI w B A L es) (hB : B ≤ w.heap.size) (hL : L ≤ 1100000) :
    Calls Try.prog 20 #[.int .i64 n, .int .i64 d, .slice A L cp] w fun e w' =>
      ∃ u, e = .returned (.tuple #[.agg #[.int .i64 (peN n d es), .int .i64 (peN n d es), u], .int .i64 (peC n d es)]) ∧ Own w' w.heap.size u (peL n d es) ∧ Below w.heap.size w w' := by
  have HR := Lib.hid (hr.more hB)
  have hlen := hr.len
  have HZ0 := Lib.hid (show (w.alloc (.cells #[.int .i64 0, .int .i64 0, .slice none 0 0] 37)).heap[w.heap.size]? = some (.cells #[.int .i64 0, .int .i64 0, .slice none 0 0] 37 (0, 0)) from heap_alloc_new _ _)
  clear hr
  unfold peC peN peL
  cases hs : sizeB n
  · obtain ⟨z0, z1, z2, zf⟩ := blk3 HZ0.out
    obtain ⟨s0, s1, s2⟩ := res3 HZ0.out (.int .i64 0) (.int .i64 0) (.slice none 0 0)
    go_enter Try.func20, Try.ntmps20
    go_wp2_with (go_at_call 52; refine (isMatrixSize_any _ _).mono ?_; rintro e w' ⟨rfl, rfl⟩)
    (try simp only [Exit.inBlock, Exit.then]); refine bodyPost_ret (by simp [results, Try.results20, go_sem, s0, s1, s2]; try rfl) rfl ?_
    exact ⟨_, rfl, by simpa using Own.nil, by (repeat (first | (with_reducible assumption) | (with_reducible exact Below.refl _ _) | (with_reducible refine below_drewN' ?_ _) | (with_reducible refine Below.drew ?_) | ((with_reducible refine Below.alloc ?_ ?_ _); rotate_left; focus (first | (simp; done) | (simp; omega) | omega)) | ((with_reducible refine Below.setCell ?_ ?_ _); rotate_left; focus (first | (simp; done) | (simp; omega) | omega))))⟩
  cases hd : inR d 1 8
  · obtain ⟨z0, z1, z2, zf⟩ := blk3 HZ0.out
    obtain ⟨s0, s1, s2⟩ := res3 HZ0.out (.int .i64 0) (.int .i64 0) (.slice none 0 0)
    go_enter Try.func20, Try.ntmps20
    go_wp2_with first | (go_at_call 52; refine (isMatrixSize_any _ _).mono ?_; rintro e w' ⟨rfl, rfl⟩) | (go_at_call 53; refine (inRange_any _ _ _ _).mono ?_; rintro e w' ⟨rfl, rfl⟩)
    (try simp only [Exit.inBlock, Exit.then]); refine bodyPost_ret (by simp [results, Try.results20, go_sem, s0, s1, s2]; try rfl) rfl ?_
    exact ⟨_, rfl, by simpa using Own.nil, by (repeat (first | (with_reducible assumption) | (with_reducible exact Below.refl _ _) | (with_reducible refine below_drewN' ?_ _) | (with_reducible refine Below.drew ?_) | ((with_reducible refine Below.alloc ?_ ?_ _); rotate_left; focus (first | (simp; done) | (simp; omega) | omega)) | ((with_reducible refine Below.setCell ?_ ?_ _); rotate_left; focus (first | (simp; done) | (simp; omega) | omega))))⟩
  obtain ⟨N, rfl, h1, h2, h3⟩ := sizeB_true hs
  have hdr := inR_true hd
  obtain ⟨K, rfl⟩ := Int.eq_ofNat_of_zero_le (show 0 ≤ d by omega)
  have hN : 17 ≤ N ∧ N ≤ 41 ∧ N % 4 = 1 := ⟨h1, h2, h3⟩
  have hK1 : 1 ≤ K := by omega
  have hK2 : K ≤ 8 := by omega
  have hNN : N * N ≤ 1681 := Nat.mul_le_mul h2 h2
  have hN0 : 0 < N * N := Nat.mul_pos (by omega) (by omega)
  simp only [cond_true, Int.toNat_natCast]
  have HD := Lib.hid (fun w => dataPlaces_any N w hN)
  have HFX := Lib.hid (fun w => fixed_any N w hN)
  have HFL := Lib.hid (fixL_len N)
  have HIN := Lib.hid (data_in4 hN)
  have hMx := dataL_le h2
  have hM0 := data_pos hN
  obtain ⟨ps, hps⟩ : ∃ ps, dataL N = ps := ⟨_, rfl⟩
  have HD : Hid (∀ w, Calls Try.prog 54 #[.int .i64 N] w fun e w' => ∃ v, e = .returned v ∧ OwnP w' w.heap.size v ps ∧ Below w.heap.size w w') := Lib.hid (by rw [← hps]; exact HD.out)
  rw [hps] at HIN hMx hM0
  simp only [hps]
  obtain ⟨M, hMM⟩ : ∃ M, ps.length = M := ⟨_, rfl⟩
  have HLP := Lib.hid hMM
  rw [hMM] at hMx hM0
  simp only [hMM, hlen]
  obtain ⟨q, hq⟩ : ∃ q, M / K = q := ⟨_, rfl⟩
  have hqi : (M : Int) / K = (q : Int) := by rw [← hq]; exact (Int.natCast_ediv M K).symm
  have hqw : IntKind.i64.wrap ((M : Int) / K) = (q : Int) := by rw [hqi]; exact i64_in (by have := Nat.div_le_self M K; omega)
  have hqK : q * K ≤ M := by rw [← hq]; exact Nat.div_mul_le_self M K
  have hqM : q ≤ M := by rw [← hq]; exact Nat.div_le_self M K
  have hK0 : ¬ K = 0 := by omega
  simp only [hq]
  clear hps hMM hq hN h3 hqi
  by_cases hLq : L = q
  · subst hLq
    rw [decide_eq_true rfl]
    simp only [cond_true]
    have hne : ((L : Int) != (L : Int)) = false := by simp
    obtain ⟨P, hP⟩ : ∃ P, 2 ^ K = P := ⟨_, rfl⟩
    have hPi : (2 : Int) ^ K = (P : Int) := by rw [← hP]; simp
    have hPb := pow8 hK2
    rw [hP] at hPb
    rw [hPi]
    obtain ⟨i0, hi⟩ := info_own' info_i64s
    have HI := Lib.hid (And.intro i0.bytes.le_refl hi)
    have HE := Lib.hid hlen
    obtain ⟨bs, hbs⟩ : ∃ bs, bitAt K es = bs := ⟨_, rfl⟩
    obtain ⟨fx, hfx⟩ : ∃ fx, fixL N = fx := ⟨_, rfl⟩
    have HBA : Hid (∀ i, bs i = bif decide (i < L * K) then nth (bitsF K es) i else 0) := Lib.hid (fun i => by rw [← hbs]; unfold bitAt; rw [HE.out])
    have HB01 : Hid (∀ i, bs i = 0 ∨ bs i = 1) := Lib.hid (fun i => by rw [← hbs]; exact bitAt_01 K es i)
    have HFX : Hid (∀ w, Calls Try.prog 63 #[.int .i64 N] w fun e w' => ∃ v, e = .returned (.agg #[.int .i64 N, .int .i64 N, v]) ∧ Own w' w.heap.size v fx ∧ Below w.heap.size w w') := Lib.hid (by rw [← hfx]; exact HFX.out)
    have HFL : Hid (fx.length = N * N) := Lib.hid (by rw [← hfx]; exact HFL.out)
    simp only [hbs, hfx]
    clear hbs hfx
    have HP := Lib.hid hP
    have HPI := Lib.hid hPi
    clear hi hlen hP hPi
    go_enter Try.func20, Try.ntmps20
    go_wp2_with first | (go_at_call 52; refine (isMatrixSize_any _ _).mono ?_; rintro e w' ⟨rfl, rfl⟩) | (go_at_call 53; refine (inRange_any _ _ _ _).mono ?_; rintro e w' ⟨rfl, rfl⟩)
    (go_at_call 54; with_reducible refine (HD.out _).mono ?_; rintro e1 w1 ⟨v1, rfl, ho1, hb1⟩; obtain ⟨hc1, hf1⟩ := bcell hb1; have hB1 : Below w.heap.size w w1 := (below_then (by first | (go_grown; done) | (repeat (first | (with_reducible assumption) | (with_reducible exact Below.refl _ _) | (with_reducible refine below_drewN' ?_ _) | (with_reducible refine Below.drew ?_) | ((with_reducible refine Below.alloc ?_ ?_ _); rotate_left; focus (first | (simp; done) | (simp; omega) | omega)) | ((with_reducible refine Below.setCell ?_ ?_ _); rotate_left; focus (first | (simp; done) | (simp; omega) | omega))))) (by first | omega | (simp; done) | (simp; omega)) hb1); have hz1a : w.heap.size < w1.heap.size := (by have := hb1.size; first | omega | (simp at this; omega)))
    obtain ⟨gp, c1, rfl, hgp, hgp1, -⟩ := ho1.cells (by rw [HLP.out]; exact hM0)
    simp only [World.size_alloc] at hgp
    rw [HLP.out] at ho1 ⊢
    have HO1 := Lib.hid ho1
    have HZ1 := Lib.hid (blk_below HZ0.out hb1 (by simp))
    have HB1 := Lib.hid hB1
    clear hc1 hf1 hb1 ho1 hB1
    go_wp2_with (at_make; refine wpList_make_own w1 rfl _ _ 35 rfl w1.heap.size 2 i0 (.int .i64 0) 1 Try.underlying35 HI.out.2.1 HI.out.2.2.1 HI.out.2.2.2.1 .i64 .i64 (M : Int) M (by rfl) (by rfl) rfl (by rw [HI.out.2.2.2.2]; omega) (by unfold maxLen; omega) (Nat.le_refl _) ?_; intro w2 hown2 hgrow2)
    have HO2 : Hid (Own w2 w1.heap.size (.slice (some ⟨w1.heap.size, 0, none⟩) 0 M) []) := Lib.hid (by unfold Own; simpa using hown2)
    have HB2 : Hid (Below w1.heap.size w1 w2) := Lib.hid ((Below.refl _ _).grown hgrow2 (Nat.le_refl _) (fun k hk => by cases hk))
    generalize Value.slice (some ⟨w1.heap.size, 0, none⟩) 0 M = bv0 at HO2 ⊢
    clear hown2 hgrow2
    go_wp2_with fail
    go_loopw [9, 11, 39] (fun bv x i wr => ∃ k : Nat, k ≤ L ∧ i = .int .i64 k ∧ Hid (allIn 0 ((P : Int) - 1) (es.take k) = true) ∧ Hid (Own wr w1.heap.size bv (bitsF K (es.take k))) ∧ Hid (Below w1.heap.size w1 wr))
      (fun _ _ i _ => L - (intOf i).toNat)
    case atStart => exact ⟨0, Nat.zero_le _, rfl, Lib.hid rfl, Lib.hid (by simpa [bitsF] using HO2.out), HB2⟩
    case round =>
      rename World => wo
      obtain ⟨k, hk, rfl, hall, hown, hbel⟩ := hrel
      have hzo : w.heap.size < wo.heap.size := by have := hbel.out.size; omega
      have hsr := hbel.out.size
      have HBo := Lib.hid (HB1.out.trans (hbel.out.mono (Nat.le_of_lt hz1a)))
      have HZo := Lib.hid (blk_below HZ1.out hbel.out hz1a)
      by_cases hkl : k < L
      · obtain ⟨b, o, rfl, hb, hc⟩ := HR.out.cells (by omega)
        have hck := (HBo.out.cell (p := ⟨b, o + k, none⟩) hb).trans (hc k hkl)
        have hst := Lib.hid (bitsF_take (K := K) (k := k) (es := es) (by rw [HE.out]; exact hkl))
        have hat := Lib.hid (allIn_take (lo := 0) (hi := (P : Int) - 1) (xs := es) (k := k) (by rw [HE.out]; exact hkl))
        have haf := Lib.hid (fun e => allIn_false (lo := 0) (hi := (P : Int) - 1) (xs := es) (k := k) (by rw [HE.out]; exact hkl) e)
        have hbl : (bitsF K (es.take k)).length ≤ 1000000 := by
          rw [bitsF_len]
          have h1 : (es.take k).length ≤ k := by simp; omega
          have h2 := Nat.mul_le_mul_right K h1
          have h3 := Nat.mul_le_mul_right K (Nat.le_of_lt hkl)
          omega
        generalize nth es k = x at hck hst hat haf
        clear hc
        by_cases hx : inR x 0 ((P : Int) - 1) = true
        · have hxr := inR_true hx
          obtain ⟨X, rfl⟩ := Int.eq_ofNat_of_zero_le hxr.1
          have hsh : (X : Int) / 2 ^ K = 0 := by
            rw [HPI.out]; exact Int.ediv_eq_zero_of_lt (by omega) (by omega)
          have hX : X < 4611686018427387904 := by omega
          have hx' := Lib.hid hx
          clear hx
          go_wp2_with fail
          (go_at_call 62; with_reducible refine (appendNumber_any _ _ X K _ _ hown.out hsr hbl (by omega) hX).mono ?_; rintro e3 w3 ⟨v3, rfl, ho3, hb3⟩)
          have HO3 := Lib.hid ho3
          have HB3 := Lib.hid (hbel.out.trans hb3)
          clear ho3 hb3
          go_wp2_with fail
          go_roundw
          case rel => exact ⟨k + 1, by omega, by go_num, Lib.hid (by rw [hat.out, hall.out, hx'.out]; rfl), Lib.hid (by rw [hst.out]; exact HO3.out), HB3⟩
          case measure => simp [intOf]; omega
        · have hx0 : inR x 0 ((P : Int) - 1) = false := by simpa using hx
          have hA := Lib.hid (haf.out hx0)
          obtain ⟨z0, z1, z2, zf⟩ := blk3 HZo.out
          obtain ⟨s0, s1, s2⟩ := res3 HZo.out (.int .i64 0) (.int .i64 0) (.slice none 0 0)
          by_cases hx1 : x < 0
          · clear hx hx0
            go_wp2_with fail
            (try simp only [Exit.inBlock, Exit.then]); refine bodyPost_ret (by simp [results, Try.results20, go_sem, s0, s1, s2]; try rfl) rfl ?_
            rw [hA.out]
            exact ⟨_, rfl, by simpa using Own.nil, ((HBo.out.setCell (Nat.le_refl _) _).setCell (Nat.le_refl _) _).setCell (Nat.le_refl _) _⟩
          · obtain ⟨X, rfl⟩ := Int.eq_ofNat_of_zero_le (show 0 ≤ x by omega)
            have hXP : P ≤ X := by
              simp only [inR, Bool.and_eq_false_iff, decide_eq_false_iff_not] at hx0
              omega
            have hsh : 0 < (X : Int) / 2 ^ K := by
              rw [HPI.out, ← Int.natCast_ediv]; have := Nat.div_pos hXP (show 0 < P by omega); omega
            clear hx hx0 hXP
            go_wp2_with fail
            (try simp only [Exit.inBlock, Exit.then]); refine bodyPost_ret (by simp [results, Try.results20, go_sem, s0, s1, s2]; try rfl) rfl ?_
            rw [hA.out]
            exact ⟨_, rfl, by simpa using Own.nil, ((HBo.out.setCell (Nat.le_refl _) _).setCell (Nat.le_refl _) _).setCell (Nat.le_refl _) _⟩
      · obtain rfl : k = L := by omega
        have hAll : Hid (allIn 0 ((P : Int) - 1) es = true) := Lib.hid (by have := hall.out; rwa [List.take_of_length_le (by rw [HE.out]; exact Nat.le_refl _)] at this)
        have hOb : Hid (Own wo w1.heap.size _ (bitsF K es)) := Lib.hid (by have := hown.out; rwa [List.take_of_length_le (by rw [HE.out]; exact Nat.le_refl _)] at this)
        obtain ⟨A9, c9, rfl, -⟩ := hOb.out.shape
        have hBL : (bitsF K es).length = k * K := by rw [bitsF_len, HE.out]
        rw [hBL] at hOb ⊢
        have HBL := Lib.hid hBL
        generalize bitsF K es = bl at hOb HBA HBL
        obtain ⟨T, hT⟩ : ∃ T, k * K = T := ⟨_, rfl⟩
        rw [hT] at hOb HBA HBL hqK ⊢
        clear hall hown hBL hT hkl hsr
        go_wp2_with fail
        (go_at_call 63; with_reducible refine (HFX.out _).mono ?_; rintro e5 w5 ⟨v5, rfl, ho5, hb5⟩)
        have hs5 := hb5.size
        obtain ⟨g5, c5, rfl, hg5, hg5w, -, -⟩ := ho5.row (by rw [HFL.out]; exact hN0)
        rw [HFL.out] at ho5 ⊢
        have HFLx := Lib.hid (fun i => (setL_len N ps bs fx i).trans HFL.out)
        have HX6 : Hid ((w5.alloc (.cells #[.int .i64 (N : Int), .int .i64 (N : Int), .slice (some ⟨g5, 0, none⟩) (N * N) c5] 37)).heap[w5.heap.size]? = some (.cells #[.int .i64 (N : Int), .int .i64 (N : Int), .slice (some ⟨g5, 0, none⟩) (N * N) c5] 37 (0, 0))) := Lib.hid (heap_alloc_new _ _)
        have HO6 : Hid (Own (w5.alloc (.cells #[.int .i64 (N : Int), .int .i64 (N : Int), .slice (some ⟨g5, 0, none⟩) (N * N) c5] 37)) wo.heap.size (.slice (some ⟨g5, 0, none⟩) (N * N) c5) fx) := Lib.hid (ho5.keep ((Below.refl _ _).alloc (Nat.le_refl _) _))
        have HB6 : Hid (Below wo.heap.size wo (w5.alloc (.cells #[.int .i64 (N : Int), .int .i64 (N : Int), .slice (some ⟨g5, 0, none⟩) (N * N) c5] 37))) := Lib.hid (hb5.alloc hs5 _)
        have hs6 : (w5.alloc (.cells #[.int .i64 (N : Int), .int .i64 (N : Int), .slice (some ⟨g5, 0, none⟩) (N * N) c5] 37)).heap.size = w5.heap.size + 1 := by simp
        go_wp2_with fail
        obtain ⟨W6, hW6⟩ : ∃ W6, W6 = w5.alloc (.cells #[.int .i64 (N : Int), .int .i64 (N : Int), .slice (some ⟨g5, 0, none⟩) (N * N) c5] 37) := ⟨_, rfl⟩
        rw [← hW6] at HX6 HO6 HB6 hs6 ⊢
        have hs6' : w5.heap.size < W6.heap.size := by omega
        clear hW6 ho5 hb5 hs6
        have HP6 := Lib.hid (HO1.out.keep (hbel.out.trans (HB6.out.mono (by have := hbel.out.size; omega))))
        have HZ6 := Lib.hid (blk_below HZo.out HB6.out hzo)
        have HBw6 := Lib.hid (HBo.out.trans (HB6.out.mono (Nat.le_of_lt hzo)))
        have HO96 := Lib.hid (hOb.out.keep HB6.out)
        have hso := hbel.out.size
        have HOLT := Lib.hid (World.ownsRow.lt hOb.out)
        clear hOb
        go_loopw [13, 14, 61] (fun q1 q2 q wr => ∃ i : Nat, i ≤ M ∧ q = .int .i64 i ∧ Hid (Own wr wo.heap.size (.slice (some ⟨g5, 0, none⟩) (N * N) c5) (setL N ps bs fx i)) ∧ Hid (W6.grownBy wr (some g5)))
          (fun _ _ q _ => M - (intOf q).toNat)
        case atStart => exact ⟨0, Nat.zero_le _, rfl, HO6, Lib.hid (World.grownBy.refl _ _)⟩
        case round =>
          obtain ⟨i, hi, rfl, hown, hgr⟩ := hrel
          have hsr := hgr.out.size
          by_cases hlt : i < M
          · obtain ⟨y0, y1, y2, -⟩ := blk3 ((hgr.out.block w5.heap.size (by omega) (fun e => by have : w5.heap.size = g5 := Option.some.inj e; omega)).trans HX6.out)
            have hk2 : i < ps.length := by rw [HLP.out]; exact hlt
            obtain ⟨p0, p1⟩ := OwnP.cellsNe HP6.out HLP.out (by omega) hgr.out (fun e => by have : gp = g5 := Option.some.inj e; omega) i hlt
            have hpin := HIN.out _ (nthP_mem hk2)
            obtain ⟨hia, hib⟩ := idxP_lt hpin
            have hst := Lib.hid (show setL N ps bs fx (i + 1) = (setL N ps bs fx i).set (idxP N (nthP ps i)) (bs i) from rfl)
            have hcl := HFLx.out i
            obtain ⟨cur, hcur⟩ : ∃ cur, setL N ps bs fx i = cur := ⟨_, rfl⟩
            rw [hcur] at hown hst hcl
            generalize nthP ps i = p at p0 p1 hpin hia hib hst
            obtain ⟨pr, pc⟩ := p
            simp only at p0 p1 hpin hib
            generalize idxP N (pr, pc) = X at hia hib hst
            have HCL := Lib.hid hcl
            have hz5 : w5.heap.size < wr.heap.size := by omega
            have hzg : gp < wr.heap.size := by omega
            have hzh : g5 < wr.heap.size := by omega
            clear hcur hcl hk2
            go_wp2_with fail
            (go_at_call 64; with_reducible refine (set_any (N : Int) N pr pc 0 g5 c5 (N * N) X _ _ wo.heap.size (hown.out.keep ((Below.refl wr.heap.size wr).alloc (Nat.le_refl _) (.cells #[.int .i64 pr, .int .i64 pc] 32))) HCL.out (by omega) hib hia ⟨by omega, by omega⟩ (by simp; omega)).mono ?_; rintro e7 w7 ⟨rfl, ho7, hg7⟩)
            have hs7 := hg7.size
            simp only [World.size_alloc] at hs7
            have HO7 := Lib.hid ho7
            have HG7 := Lib.hid (grown_t (grown_alloc hgr.out (.cells #[.int .i64 pr, .int .i64 pc] 32)) hg7)
            have hpb := (hg7.block wr.heap.size (by simp) (fun e => by have : wr.heap.size = g5 := Option.some.inj e; omega)).trans (heap_alloc_new wr (.cells #[.int .i64 pr, .int .i64 pc] 32))
            have HPB := Lib.hid hpb
            clear ho7 hg7 hpb y0 y1 y2 p0 p1
            have hbs := HBA.out i
            by_cases hiT : i < T
            · rw [decide_eq_true hiT] at hbs
              simp only [cond_true] at hbs
              obtain ⟨g9, c9', e9, hg9B, hg9w, -, -⟩ := HO96.out.row (by rw [HBL.out]; omega)
              simp only [Value.slice.injEq] at e9
              obtain ⟨rfl, -, rfl⟩ := e9
              have hg9 := HOLT.out g9 rfl
              have hO9 := HO96.out
              have wc := Own.cellsNe hO9 HBL.out HG7.out (fun e => by have : g9 = g5 := Option.some.inj e; omega) i hiT
              rw [← hbs] at wc
              have hBB := Lib.hid hbs
              have hbv := HB01.out i
              generalize bs i = bb at wc hst hbv
              obtain ⟨y0, y1, y2, -⟩ := blk3 ((HG7.out.block w5.heap.size (by omega) (fun e => by have : w5.heap.size = g5 := Option.some.inj e; omega)).trans HX6.out)
              obtain ⟨x0, x1, -⟩ : w7.cell? ⟨wr.heap.size, 0, none⟩ = some (.int .i64 pr) ∧ w7.cell? ⟨wr.heap.size, 1, none⟩ = some (.int .i64 pc) ∧ True := by
                refine ⟨?_, ?_, trivial⟩ <;> simp [World.cell?, HPB.out]
              have hz57 : w5.heap.size < w7.heap.size := by omega
              have hzr7 : wr.heap.size < w7.heap.size := by omega
              have hz97 : g9 < w7.heap.size := by omega
              clear hbs hO9
              go_wp2_with fail
              refine wp_region_qat [] 6 [] (by kernel_rfl) (by kernel_rfl) ?_
              intro hbc
              simp only [List.take_succ_cons, List.take_zero, List.drop_succ_cons, List.drop_zero]
              repeat (first
                | refine wpQ_pass rfl ?_
                | (refine wpQ_step rfl (fun K hK => ?_)
                   go_simp
                   first
                     | (refine hK _ ?_; clear hK K)))
              refine wpQ_nil ⟨?_, ?_⟩
              · exact rfl
              intro  w8 hb8 hF8
              clear hbc
              obtain ⟨hc8, hf8⟩ := bcell hb8
              clear hF8
              try simp only [Act.put, List.setIfInBounds_toArray, List.set_cons_succ, List.set_cons_zero]
              have HO8 := Lib.hid (HO7.out.keep hb8)
              have HG8 := Lib.hid (show W6.grownBy w8 (some g5) from ⟨hb8.os.trans HG7.out.os, hb8.tape.trans HG7.out.tape, hb8.output.trans HG7.out.output, by have := hb8.size; have := HG7.out.size; omega, fun k hk hne => (hb8.block k (by have := HG7.out.size; omega)).trans (HG7.out.block k hk hne)⟩)
              have hs8 := hb8.size
              clear hc8 hf8 y0 y1 y2 x0 x1 wc
              go_wp2_with (go_at_call 64; with_reducible refine (set_any (N : Int) N pr pc bb g5 c5 (N * N) X _ _ wo.heap.size HO8.out (by rw [List.length_set]; exact HCL.out) (by omega) hib hia ⟨by omega, by omega⟩ (by omega)).mono ?_; rintro e9 w9 ⟨rfl, ho9, hg9'⟩)
              have HO9 := Lib.hid ho9
              have HG9 := Lib.hid (grown_t HG8.out hg9')
              clear ho9 hg9'
              go_roundw
              case rel => exact ⟨i + 1, by omega, by go_num, Lib.hid (by rw [hst.out]; have := HO9.out; rw [set_two] at this; exact this), HG9⟩
              case measure => simp [intOf]; omega
            · rw [decide_eq_false hiT] at hbs
              simp only [cond_false] at hbs
              have HBS := Lib.hid hbs
              clear hbs
              go_wp2_with fail
              go_roundw
              case rel => exact ⟨i + 1, by omega, by go_num, Lib.hid (by rw [hst.out, HBS.out]; exact HO7.out), HG7⟩
              case measure => simp [intOf]; omega
          · obtain rfl : i = M := by omega
            obtain ⟨y0, y1, y2, -⟩ := blk3 ((hgr.out.block w5.heap.size (by omega) (fun e => by have : w5.heap.size = g5 := Option.some.inj e; omega)).trans HX6.out)
            have HZr := Lib.hid ((hgr.out.block w.heap.size (by omega) (fun e => by have : w.heap.size = g5 := Option.some.inj e; omega)).trans HZ6.out)
            obtain ⟨z0, z1, z2, zf⟩ := blk3 HZr.out
            obtain ⟨s0, s1, s2⟩ := res3 HZr.out (.int .i64 (N : Int)) (.int .i64 (N : Int)) (.slice (some ⟨g5, 0, none⟩) (N * N) c5)
            have HBr : Hid (Below w.heap.size w wr) := Lib.hid (HBw6.out.grown hgr.out (by omega) (fun k hk => by cases hk; omega))
            have HF := Lib.hid hown.out
            clear hgr hsr HZr
            go_wp2_with fail
            (try simp only [Exit.inBlock, Exit.then]); refine bodyPost_ret (by simp [results, Try.results20, go_sem, s0, s1, s2]; try rfl) rfl ?_
            rw [hAll.out]
            exact ⟨_, rfl, ((((HF.out.setLt (p := ⟨w.heap.size, 0, none⟩) hzo _).setLt (p := ⟨w.heap.size, 1, none⟩) hzo _).setLt (p := ⟨w.heap.size, 2, none⟩) hzo _)).more (Nat.le_of_lt hzo),
              ((HBr.out.setCell (Nat.le_refl _) _).setCell (Nat.le_refl _) _).setCell (Nat.le_refl _) _⟩
  · rw [decide_eq_false hLq]
    have hne : ((L : Int) != (q : Int)) = true := by simp; omega
    simp only [cond_false]
    go_enter Try.func20, Try.ntmps20
    go_wp2_with first | (go_at_call 52; refine (isMatrixSize_any _ _).mono ?_; rintro e w' ⟨rfl, rfl⟩) | (go_at_call 53; refine (inRange_any _ _ _ _).mono ?_; rintro e w' ⟨rfl, rfl⟩)
    (go_at_call 54; with_reducible refine (HD.out _).mono ?_; rintro e1 w1 ⟨v1, rfl, ho1, hb1⟩; obtain ⟨hc1, hf1⟩ := bcell hb1; have hB1 : Below w.heap.size w w1 := (below_then (by first | (go_grown; done) | (repeat (first | (with_reducible assumption) | (with_reducible exact Below.refl _ _) | (with_reducible refine below_drewN' ?_ _) | (with_reducible refine Below.drew ?_) | ((with_reducible refine Below.alloc ?_ ?_ _); rotate_left; focus (first | (simp; done) | (simp; omega) | omega)) | ((with_reducible refine Below.setCell ?_ ?_ _); rotate_left; focus (first | (simp; done) | (simp; omega) | omega))))) (by first | omega | (simp; done) | (simp; omega)) hb1); have hz1a : w.heap.size < w1.heap.size := (by have := hb1.size; first | omega | (simp at this; omega)))
    obtain ⟨A1, c1, rfl⟩ := ho1.shape0
    rw [HLP.out] at ⊢
    have HZ1 := Lib.hid (blk_below HZ0.out hb1 (by simp))
    obtain ⟨z0, z1, z2, zf⟩ := blk3 HZ1.out
    obtain ⟨s0, s1, s2⟩ := res3 HZ1.out (.int .i64 0) (.int .i64 0) (.slice none 0 0)
    clear hc1 hf1
    go_wp2_with fail
    (try simp only [Exit.inBlock, Exit.then]); refine bodyPost_ret (by simp [results, Try.results20, go_sem, s0, s1, s2]; try rfl) rfl ?_
    exact ⟨_, rfl, by simpa using Own.nil, ((hB1.setCell (Nat.le_refl _) _).setCell (Nat.le_refl _) _).setCell (Nat.le_refl _) _⟩
end Go.Proofs.Yteghpageamehkaa
namespace Go.Proofs.Yteghpageamehkaa
set_option linter.unusedSimpArgs false
open Go.RowKit

set_option maxRecDepth 20000 in
set_option maxHeartbeats 4000000 in
theorem l15Place_any (N K : Nat) (A : Option Addr) (L cp : Nat) (es : List Int) (w : World) (B : Nat) (hN : 17 ≤ N ∧ N ≤ 41 ∧ N % 4 = 1) (hK1 : 1 ≤ K) (hK2 : K ≤ 8) (hr : RI w B A L es) (hB : B ≤ w.heap.size) (hL : L ≤ 1100000) (hv : ∀ k, k < L → 0 ≤ nth es k ∧ nth es k ≤ 255) :
    Calls Try.prog 61 #[.int .i64 N, .int .i64 K, .slice A L cp] w fun e w' =>
      ∃ u, e = .returned (.agg #[.int .i64 N, .int .i64 N, u]) ∧ Own w' w.heap.size u (setL N (dataL N) (bitAt K es) (fixL N) (dataL N).length) ∧ Below w.heap.size w w' := by
  have HR := Lib.hid (hr.more hB)
  have hlen := hr.len
  have HE := Lib.hid hlen
  have HZ0 := Lib.hid (show (w.alloc (.cells #[.int .i64 0, .int .i64 0, .slice none 0 0] 37)).heap[w.heap.size]? = some (.cells #[.int .i64 0, .int .i64 0, .slice none 0 0] 37 (0, 0)) from heap_alloc_new _ _)
  have h1 := hN.1
  have h2 := hN.2.1
  have hNN : N * N ≤ 1681 := Nat.mul_le_mul h2 h2
  have hN0 : 0 < N * N := Nat.mul_pos (by omega) (by omega)
  have HD := Lib.hid (fun w => l15Places_any N w hN)
  have HFX := Lib.hid (fun w => l14Grid_any N w hN)
  have HFL := Lib.hid (fixL_len N)
  have HIN := Lib.hid (data_in4 hN)
  have hMx := dataL_le h2
  have hM0 := data_pos hN
  have HV := Lib.hid hv
  obtain ⟨ps, hps⟩ : ∃ ps, dataL N = ps := ⟨_, rfl⟩
  have HD : Hid (∀ w, Calls Try.prog 59 #[.int .i64 N] w fun e w' => ∃ v, e = .returned v ∧ OwnP w' w.heap.size v ps ∧ Below w.heap.size w w') := Lib.hid (by rw [← hps]; exact HD.out)
  rw [hps] at HIN hMx hM0
  simp only [hps]
  obtain ⟨M, hMM⟩ : ∃ M, ps.length = M := ⟨_, rfl⟩
  have HLP := Lib.hid hMM
  rw [hMM] at hMx hM0
  simp only [hMM]
  obtain ⟨i0, hi⟩ := info_own' info_i64s
  have HI := Lib.hid (And.intro i0.bytes.le_refl hi)
  obtain ⟨bs, hbs⟩ : ∃ bs, bitAt K es = bs := ⟨_, rfl⟩
  obtain ⟨fx, hfx⟩ : ∃ fx, fixL N = fx := ⟨_, rfl⟩
  have HBA : Hid (∀ i, bs i = if i / K < L then (((nth es (i / K)).toNat / 2 ^ (K - 1 - i % K) % 2 : Nat) : Int) else 0) := Lib.hid (fun i => by
    rw [← hbs]; unfold bitAt; rw [HE.out]
    by_cases h : i / K < L
    · have h' : i < L * K := (Nat.div_lt_iff_lt_mul (by omega)).1 h
      rw [if_pos h, decide_eq_true h', ← nth_bitsF hK1 (by rw [HE.out]; exact h')]; rfl
    · have h' : ¬ i < L * K := fun x => h ((Nat.div_lt_iff_lt_mul (by omega)).2 x)
      rw [if_neg h, decide_eq_false h']; rfl)
  have HFX : Hid (∀ w, Calls Try.prog 81 #[.int .i64 N] w fun e w' => ∃ v, e = .returned (.agg #[.int .i64 N, .int .i64 N, v]) ∧ Own w' w.heap.size v fx ∧ Below w.heap.size w w') := Lib.hid (by rw [← hfx]; exact HFX.out)
  have HFL : Hid (fx.length = N * N) := Lib.hid (by rw [← hfx]; exact HFL.out)
  simp only [hbs, hfx]
  have hK0 : ¬ K = 0 := by omega
  clear hbs hfx hps hMM hN hi hr hlen hv
  go_enter Try.func61, Try.ntmps61
  go_wp2_with fail
  (go_at_call 81; with_reducible refine (HFX.out _).mono ?_; rintro e1 w1 ⟨v1, rfl, ho1, hb1⟩)
  have hs1 := hb1.size
  simp only [World.size_alloc] at hs1
  obtain ⟨g1, c1, rfl, hg1, hg1w, -, -⟩ := ho1.row (by rw [HFL.out]; exact hN0)
  rw [HFL.out] at ho1 ⊢
  have HZ1 := Lib.hid (blk_below HZ0.out hb1 (by simp))
  have HX1 : Hid ((w1.alloc (.cells #[.int .i64 (N : Int), .int .i64 (N : Int), .slice (some ⟨g1, 0, none⟩) (N * N) c1] 37)).heap[w1.heap.size]? = some (.cells #[.int .i64 (N : Int), .int .i64 (N : Int), .slice (some ⟨g1, 0, none⟩) (N * N) c1] 37 (0, 0))) := Lib.hid (heap_alloc_new _ _)
  have HR1 : Hid (RI (w1.alloc (.cells #[.int .i64 (N : Int), .int .i64 (N : Int), .slice (some ⟨g1, 0, none⟩) (N * N) c1] 37)) w1.heap.size (some ⟨g1, 0, none⟩) (N * N) fx) := Lib.hid ((ho1.ri HFL.out).alloc (Nat.le_refl _) _)
  have HB1 : Hid (Below w.heap.size w (w1.alloc (.cells #[.int .i64 (N : Int), .int .i64 (N : Int), .slice (some ⟨g1, 0, none⟩) (N * N) c1] 37))) := Lib.hid ((((Below.refl _ _).alloc (Nat.le_refl _) _).trans (hb1.mono (by simp))).alloc (by omega) _)
  have HZ2 := Lib.hid (blk_alloc (u := .cells #[.int .i64 (N : Int), .int .i64 (N : Int), .slice (some ⟨g1, 0, none⟩) (N * N) c1] 37) HZ1.out (by omega))
  obtain ⟨y0, y1, y2, -⟩ := blk3 HX1.out
  clear ho1 hb1
  go_wp2_with fail
  (go_at_call 83; with_reducible refine (l01Own_any g1 0 (N * N) c1 fx _ w1.heap.size HR1.out hN0 (by omega)).mono ?_; rintro e2 w2 ⟨v2, rfl, ho2, hb2⟩)
  have hs2 := hb2.size
  simp only [World.size_alloc] at hs2
  obtain ⟨h, c2, rfl, hhB, hhw, -, -⟩ := ho2.row (by rw [HFL.out]; exact hN0)
  simp only [World.size_alloc] at hhB
  rw [HFL.out] at ho2 ⊢
  have HZ3 := Lib.hid (blk_below HZ2.out hb2 (by simp; omega))
  have HO2 := Lib.hid (ho2.more (B' := w1.heap.size + 1) (by simp))
  have HB2 := Lib.hid (HB1.out.trans (hb2.mono (by simp; omega)))
  clear ho2 hb2 y0 y1 y2
  go_wp2_with fail
  (go_at_call 59; with_reducible refine (HD.out _).mono ?_; rintro e3 w3 ⟨v3, rfl, ho3, hb3⟩)
  have hs3 := hb3.size
  obtain ⟨gp, c3, rfl, hgp, hgp3, -⟩ := ho3.cells (by rw [HLP.out]; exact hM0)
  rw [HLP.out] at ho3 ⊢
  have HPL := Lib.hid ho3
  have HZ4 := Lib.hid (blk_below HZ3.out hb3 (by omega))
  have HO3 := Lib.hid (HO2.out.keep hb3)
  have HB3 := Lib.hid (HB2.out.trans (hb3.mono (by omega)))
  have HFLx := Lib.hid (fun i => (setL_len N ps bs fx i).trans HFL.out)
  clear ho3 hb3
  go_wp2_with fail
  go_loopw [10, 11] (fun q q1 wr => ∃ i : Nat, i ≤ M ∧ q = .int .i64 i ∧ Hid (Own wr (w1.heap.size + 1) (.slice (some ⟨h, 0, none⟩) (N * N) c2) (setL N ps bs fx i)) ∧ Hid (w3.grownBy wr (some h)))
    (fun q _ _ => M - (intOf q).toNat)
  case atStart => exact ⟨0, Nat.zero_le _, rfl, HO3, Lib.hid (World.grownBy.refl _ _)⟩
  case round =>
    obtain ⟨i, hi, rfl, hown, hgr⟩ := hrel
    have hsr := hgr.out.size
    by_cases hlt : i < M
    · have hk2 : i < ps.length := by rw [HLP.out]; exact hlt
      obtain ⟨p0, p1⟩ := OwnP.cellsNe HPL.out HLP.out (by omega) hgr.out (fun e => by have : gp = h := Option.some.inj e; omega) i hlt
      have hpin := HIN.out _ (nthP_mem hk2)
      obtain ⟨hia, hib⟩ := idxP_lt hpin
      have hst := Lib.hid (show setL N ps bs fx (i + 1) = (setL N ps bs fx i).set (idxP N (nthP ps i)) (bs i) from rfl)
      have hcl := HFLx.out i
      obtain ⟨cur, hcur⟩ : ∃ cur, setL N ps bs fx i = cur := ⟨_, rfl⟩
      rw [hcur] at hown hst hcl
      generalize nthP ps i = p at p0 p1 hpin hia hib hst
      obtain ⟨pr, pc⟩ := p
      simp only at p0 p1 hpin hib
      generalize idxP N (pr, pc) = X at hia hib hst
      have HCL := Lib.hid hcl
      obtain ⟨g', c', e', hB', hg', hc', hf'⟩ := hown.out.row (by rw [HCL.out]; omega)
      obtain ⟨rfl, rfl⟩ : h = g' ∧ c2 = c' := by
        simp only [Value.slice.injEq, Option.some.injEq, Addr.mk.injEq, and_true] at e'
        exact ⟨e'.1, e'.2.2⟩
      have hdk := hc' X (by rw [HCL.out]; exact hia)
      have hfk := hf' X
      have wA1 : IntKind.i64.wrap (pr * N) = pr * N := i64_in (by omega)
      have wA2 : IntKind.i64.wrap (pr * N + pc) = X := by rw [hib]; exact i64_in (by omega)
      have wA3 : IntKind.i64.wrap (X : Int) = X := i64_in (by omega)
      have vA : (X : Int) < (N : Int) * N := by
        have : (X : Int) < ((N * N : Nat) : Int) := by omega
        simpa using this
      have hz0 : w.heap.size < wr.heap.size := by omega
      have hzg : gp < wr.heap.size := by omega
      have hzh : h < wr.heap.size := by omega
      obtain ⟨E, hE⟩ : ∃ E, i / K = E := ⟨_, rfl⟩
      obtain ⟨J, hJ⟩ : ∃ J, i % K = J := ⟨_, rfl⟩
      have hJK : J < K := by rw [← hJ]; exact Nat.mod_lt _ (by omega)
      have hEi : E ≤ i := by rw [← hE]; exact Nat.div_le_self _ _
      have hEw : IntKind.i64.wrap ((i : Int) / K) = (E : Int) := by rw [← hE, ← Int.natCast_ediv, hE]; exact i64_in (by omega)
      have hJw : (i : Int) % K = (J : Int) := by rw [← hJ, ← Int.natCast_emod]
      have hbi := HBA.out i
      rw [hE, hJ] at hbi
      clear hcur hcl hk2 hE hJ hc' hf' e'
      by_cases hEL : E < L
      · rw [if_pos hEL] at hbi
        have hEL' : (E : Int) < L := by omega
        obtain ⟨b, o, rfl, hb, hc⟩ := HR.out.cells (by omega)
        have hbr : b < wr.heap.size := by omega
        have hck := ((HB3.out.grown hgr.out (by omega) (fun k hk => by cases hk; omega)).cell (p := ⟨b, o + E, none⟩) hb).trans (hc E hEL)
        have hxv := HV.out E hEL
        generalize nth es E = x at hck hxv hbi
        obtain ⟨x, rfl⟩ := Int.eq_ofNat_of_zero_le hxv.1
        rw [Int.toNat_natCast] at hbi
        obtain ⟨S, hS⟩ : ∃ S, K - 1 - J = S := ⟨_, rfl⟩
        have hSi : (K : Int) - 1 - J = (S : Int) := by omega
        have hSK : S ≤ 8 := by omega
        rw [hS] at hbi
        have hbit := i64_bit x S (by omega)
        rw [← hbi] at hbit
        have hbb : bs i = 0 ∨ bs i = 1 := by rw [hbi]; omega
        have HBI := Lib.hid hbi
        generalize bs i = bb at hst hbit hbb HBI
        clear hbi hc hS
        go_wp2_with fail
        go_quiet (fail)
        go_wp2_with fail
        have hgd := Lib.hid (grown_drewN hgr.out nq)
        have hod := Lib.hid (hown.out.drewN nq)
        have p0' : (wr.drewN nq).cell? ⟨gp, i * 2, none⟩ = some (.int .i64 pr) := p0
        have p1' : (wr.drewN nq).cell? ⟨gp, i * 2 + 1, none⟩ = some (.int .i64 pc) := p1
        have hdk' : (wr.drewN nq).cell? ⟨h, X, none⟩ = some (.int .i64 (nth cur X)) := hdk
        have hfk' : (wr.drewN nq).frozen? ⟨h, X, none⟩ = false := hfk
        have hy0 : w.heap.size < (wr.drewN nq).heap.size := hz0
        have hyg : gp < (wr.drewN nq).heap.size := hzg
        have hyh : h < (wr.drewN nq).heap.size := hzh
        have hsd : w3.heap.size ≤ (wr.drewN nq).heap.size := hsr
        generalize wr.drewN nq = wd at hgd hod p0' p1' hdk' hfk' hy0 hyg hyh hsd ⊢
        clear p0 p1 hdk hfk
        refine wp_region_qat [] 16 [] (by kernel_rfl) (by kernel_rfl) ?_
        intro hbc
        simp only [List.take_succ_cons, List.take_zero, List.drop_succ_cons, List.drop_zero]
        repeat (first
          | refine wpQ_pass rfl ?_
          | (refine wpQ_step rfl (fun K hK => ?_)
             go_simp
             first
               | (refine hK _ ?_; clear hK K)))
        refine wpQ_nil ⟨?_, ?_⟩
        · exact rfl
        intro  w6 hb6 hF6
        clear hbc
        obtain ⟨hc6, hf6⟩ := bcell hb6
        clear hF6
        try simp only [Act.put, List.setIfInBounds_toArray, List.set_cons_succ, List.set_cons_zero]
        have HO6 := Lib.hid (hod.out.keep hb6)
        have HG6 := Lib.hid (show w3.grownBy w6 (some h) from ⟨hb6.os.trans hgd.out.os, hb6.tape.trans hgd.out.tape, hb6.output.trans hgd.out.output, by have := hb6.size; omega, fun k hk hne => (hb6.block k (by omega)).trans (hgd.out.block k hk hne)⟩)
        go_wp2_with fail
        go_roundw
        case rel => exact ⟨i + 1, by omega, by go_num, Lib.hid (by rw [hst.out]; exact Own.setn HCL.out HO6.out), Lib.hid (grown_set HG6.out _)⟩
        case measure => simp [intOf]; omega
      · rw [if_neg hEL] at hbi
        have hEL' : ¬ (E : Int) < L := by omega
        have HBI := Lib.hid hbi
        clear hbi
        go_wp2_with fail
        refine wp_region_qat [] 16 [] (by kernel_rfl) (by kernel_rfl) ?_
        intro hbc
        simp only [List.take_succ_cons, List.take_zero, List.drop_succ_cons, List.drop_zero]
        repeat (first
          | refine wpQ_pass rfl ?_
          | (refine wpQ_step rfl (fun K hK => ?_)
             go_simp
             first
               | (refine hK _ ?_; clear hK K)))
        refine wpQ_nil ⟨?_, ?_⟩
        · exact rfl
        intro  w6 hb6 hF6
        clear hbc
        obtain ⟨hc6, hf6⟩ := bcell hb6
        clear hF6
        try simp only [Act.put, List.setIfInBounds_toArray, List.set_cons_succ, List.set_cons_zero]
        have HO6 := Lib.hid (hown.out.keep hb6)
        have HG6 := Lib.hid (show w3.grownBy w6 (some h) from ⟨hb6.os.trans hgr.out.os, hb6.tape.trans hgr.out.tape, hb6.output.trans hgr.out.output, by have := hb6.size; omega, fun k hk hne => (hb6.block k (by omega)).trans (hgr.out.block k hk hne)⟩)
        go_wp2_with fail
        go_roundw
        case rel => exact ⟨i + 1, by omega, by go_num, Lib.hid (by rw [hst.out, HBI.out]; exact Own.setn HCL.out HO6.out), Lib.hid (grown_set HG6.out _)⟩
        case measure => simp [intOf]; omega
    · obtain rfl : i = M := by omega
      have HZr := Lib.hid ((hgr.out.block w.heap.size (by omega) (fun e => by have : w.heap.size = h := Option.some.inj e; omega)).trans HZ4.out)
      obtain ⟨z0, z1, z2, zf⟩ := blk3 HZr.out
      obtain ⟨s0, s1, s2⟩ := res3 HZr.out (.int .i64 (N : Int)) (.int .i64 (N : Int)) (.slice (some ⟨h, 0, none⟩) (N * N) c2)
      have HBr : Hid (Below w.heap.size w wr) := Lib.hid (HB3.out.grown hgr.out (by omega) (fun k hk => by cases hk; omega))
      have HF := Lib.hid hown.out
      have hz1 : w.heap.size < w1.heap.size + 1 := by omega
      clear hgr hsr HZr
      go_wp2_with fail
      (try simp only [Exit.inBlock, Exit.then]); refine bodyPost_ret (by simp [results, Try.results61, go_sem, s0, s1, s2]; try rfl) rfl ?_
      exact ⟨_, rfl, ((((HF.out.setLt (p := ⟨w.heap.size, 0, none⟩) hz1 _).setLt (p := ⟨w.heap.size, 1, none⟩) hz1 _).setLt (p := ⟨w.heap.size, 2, none⟩) hz1 _)).more (Nat.le_of_lt hz1),
        ((HBr.out.setCell (Nat.le_refl _) _).setCell (Nat.le_refl _) _).setCell (Nat.le_refl _) _⟩
end Go.Proofs.Yteghpageamehkaa
namespace Go.Proofs.Yteghpageamehkaa
set_option linter.unusedSimpArgs false
open Go.RowKit

set_option maxRecDepth 20000 in
set_option maxHeartbeats 4000000 in
theorem sPlaceElements_any (n d : Int) (A : Option Addr) (L cp : Nat) (es : List Int) (w : World) (B : Nat) (hr : RI w B A L es) (hB : B ≤ w.heap.size) (hL : L ≤ 1100000) :
    Calls Try.prog 18 #[.int .i64 n, .int .i64 d, .slice A L cp] w fun e w' =>
      ∃ u, e = .returned (.tuple #[.agg #[.int .i64 (peN n d es), .int .i64 (peN n d es), u], .int .i64 (peC n d es)]) ∧ Own w' w.heap.size u (peL n d es) ∧ Below w.heap.size w w' := by
  have HR := Lib.hid (hr.more hB)
  have hlen := hr.len
  have HZ0 := Lib.hid (show (w.alloc (.cells #[.int .i64 0, .int .i64 0, .slice none 0 0] 37)).heap[w.heap.size]? = some (.cells #[.int .i64 0, .int .i64 0, .slice none 0 0] 37 (0, 0)) from heap_alloc_new _ _)
  clear hr
  unfold peC peN peL
  cases hs : sizeB n
  · obtain ⟨z0, z1, z2, zf⟩ := blk3 HZ0.out
    obtain ⟨s0, s1, s2⟩ := res3 HZ0.out (.int .i64 0) (.int .i64 0) (.slice none 0 0)
    go_enter Try.func18, Try.ntmps18
    go_wp2_with (go_at_call 55; refine (l14Size_any _ _).mono ?_; rintro e w' ⟨rfl, rfl⟩)
    (try simp only [Exit.inBlock, Exit.then]); refine bodyPost_ret (by simp [results, Try.results18, go_sem, s0, s1, s2]; try rfl) rfl ?_
    exact ⟨_, rfl, by simpa using Own.nil, by (repeat (first | (with_reducible assumption) | (with_reducible exact Below.refl _ _) | (with_reducible refine below_drewN' ?_ _) | (with_reducible refine Below.drew ?_) | ((with_reducible refine Below.alloc ?_ ?_ _); rotate_left; focus (first | (simp; done) | (simp; omega) | omega)) | ((with_reducible refine Below.setCell ?_ ?_ _); rotate_left; focus (first | (simp; done) | (simp; omega) | omega))))⟩
  cases hd : inR d 1 8
  · obtain ⟨z0, z1, z2, zf⟩ := blk3 HZ0.out
    obtain ⟨s0, s1, s2⟩ := res3 HZ0.out (.int .i64 0) (.int .i64 0) (.slice none 0 0)
    go_enter Try.func18, Try.ntmps18
    go_wp2_with first | (go_at_call 55; refine (l14Size_any _ _).mono ?_; rintro e w' ⟨rfl, rfl⟩) | (go_at_call 56; refine (l15Width_any _ _).mono ?_; rintro e w' ⟨rfl, rfl⟩)
    (try simp only [Exit.inBlock, Exit.then]); refine bodyPost_ret (by simp [results, Try.results18, go_sem, s0, s1, s2]; try rfl) rfl ?_
    exact ⟨_, rfl, by simpa using Own.nil, by (repeat (first | (with_reducible assumption) | (with_reducible exact Below.refl _ _) | (with_reducible refine below_drewN' ?_ _) | (with_reducible refine Below.drew ?_) | ((with_reducible refine Below.alloc ?_ ?_ _); rotate_left; focus (first | (simp; done) | (simp; omega) | omega)) | ((with_reducible refine Below.setCell ?_ ?_ _); rotate_left; focus (first | (simp; done) | (simp; omega) | omega))))⟩
  obtain ⟨N, rfl, h1, h2, h3⟩ := sizeB_true hs
  have hdr := inR_true hd
  obtain ⟨K, rfl⟩ := Int.eq_ofNat_of_zero_le (show 0 ≤ d by omega)
  have hN : 17 ≤ N ∧ N ≤ 41 ∧ N % 4 = 1 := ⟨h1, h2, h3⟩
  have hK1 : 1 ≤ K := by omega
  have hK2 : K ≤ 8 := by omega
  simp only [cond_true, Int.toNat_natCast]
  have HCN := Lib.hid (fun w => l14Count_any N w hN)
  have hMx := dataL_le h2
  have HPC := Lib.hid (fun (w' : World) (hb : Below w.heap.size w w') (hv : ∀ k, k < L → 0 ≤ nth es k ∧ nth es k ≤ 255) => l15Place_any N K A L cp es w' w.heap.size hN hK1 hK2 (HR.out.below hb) hb.size hL hv)
  obtain ⟨M, hMM⟩ : ∃ M, (dataL N).length = M := ⟨_, rfl⟩
  rw [hMM] at hMx HCN
  simp only [hMM, hlen] at HPC ⊢
  obtain ⟨q, hq⟩ : ∃ q, M / K = q := ⟨_, rfl⟩
  have hqi : (M : Int) / K = (q : Int) := by rw [← hq]; exact (Int.natCast_ediv M K).symm
  have hqM : q ≤ M := by rw [← hq]; exact Nat.div_le_self M K
  have hqw : IntKind.i64.wrap ((M : Int) / K) = (q : Int) := by rw [hqi]; exact i64_in (by omega)
  have hK0 : ¬ K = 0 := by omega
  simp only [hq]
  clear hMM hq hN h3 hqi
  by_cases hLq : L = q
  · subst hLq
    rw [decide_eq_true rfl]
    simp only [cond_true]
    have hne : ((L : Int) != (L : Int)) = false := by simp
    obtain ⟨P, hP⟩ : ∃ P, 2 ^ K = P := ⟨_, rfl⟩
    have hPi : (2 : Int) ^ K = (P : Int) := by rw [← hP]; simp
    have hPb := pow8 hK2
    rw [hP] at hPb
    rw [hPi]
    have HE := Lib.hid hlen
    obtain ⟨rs, hrs⟩ : ∃ rs, setL N (dataL N) (bitAt K es) (fixL N) M = rs := ⟨_, rfl⟩
    rw [hrs] at HPC ⊢
    clear hlen hP hrs
    go_enter Try.func18, Try.ntmps18
    go_wp2_with first | (go_at_call 55; refine (l14Size_any _ _).mono ?_; rintro e w' ⟨rfl, rfl⟩) | (go_at_call 56; refine (l15Width_any _ _).mono ?_; rintro e w' ⟨rfl, rfl⟩)
    (go_at_call 58; with_reducible refine (HCN.out _).mono ?_; rintro e1 w1 ⟨rfl, hb1⟩; obtain ⟨hc1, hf1⟩ := bcell hb1; have hB1 : Below w.heap.size w w1 := (below_then (by first | (go_grown; done) | (repeat (first | (with_reducible assumption) | (with_reducible exact Below.refl _ _) | (with_reducible refine below_drewN' ?_ _) | (with_reducible refine Below.drew ?_) | ((with_reducible refine Below.alloc ?_ ?_ _); rotate_left; focus (first | (simp; done) | (simp; omega) | omega)) | ((with_reducible refine Below.setCell ?_ ?_ _); rotate_left; focus (first | (simp; done) | (simp; omega) | omega))))) (by first | omega | (simp; done) | (simp; omega)) hb1); have hz1a : w.heap.size < w1.heap.size := (by have := hb1.size; first | omega | (simp at this; omega)))
    have HZ1 := Lib.hid (blk_below HZ0.out hb1 (by simp))
    have HB1 := Lib.hid hB1
    have HR1 := Lib.hid (HR.out.below hB1)
    clear hc1 hf1 hb1 hB1
    go_wp2_with fail
    go_loop [8] (fun i => ∃ k : Nat, k ≤ L ∧ i = .int .i64 k ∧ Hid (allIn 0 ((P : Int) - 1) (es.take k) = true)) (fun i => L - (intOf i).toNat)
    case atStart => exact ⟨0, Nat.zero_le _, rfl, rfl⟩
    case round =>
      obtain ⟨k, hk, rfl, hall⟩ := hrel
      by_cases hkl : k < L
      · obtain ⟨b, o, rfl, hb, hc⟩ := HR1.out.cells (by omega)
        have hck := hc k hkl
        have hat := Lib.hid (allIn_take (lo := 0) (hi := (P : Int) - 1) (xs := es) (k := k) (by rw [HE.out]; exact hkl))
        have haf := Lib.hid (fun e => allIn_false (lo := 0) (hi := (P : Int) - 1) (xs := es) (k := k) (by rw [HE.out]; exact hkl) e)
        generalize nth es k = x at hck hat haf
        clear hc
        cases hx : inR x 0 ((P : Int) - 1)
        · have hA := Lib.hid (haf.out hx)
          obtain ⟨z0, z1, z2, zf⟩ := blk3 HZ1.out
          obtain ⟨s0, s1, s2⟩ := res3 HZ1.out (.int .i64 0) (.int .i64 0) (.slice none 0 0)
          go_wp2_with (go_at_call 57; refine (l01In_any _ _ _ _).mono ?_; rintro e w' ⟨rfl, rfl⟩)
          (try simp only [Exit.inBlock, Exit.then]); refine bodyPost_ret (by simp [results, Try.results18, go_sem, s0, s1, s2]; try rfl) rfl ?_
          rw [hA.out]
          exact ⟨_, rfl, by simpa using Own.nil, ((HB1.out.setCell (Nat.le_refl _) _).setCell (Nat.le_refl _) _).setCell (Nat.le_refl _) _⟩
        · have hx' := Lib.hid hx
          go_wp2_with (go_at_call 57; refine (l01In_any _ _ _ _).mono ?_; rintro e w' ⟨rfl, rfl⟩)
          go_round
          case rel => exact ⟨k + 1, by omega, by go_num, by rw [hat.out, hall.out, hx'.out]; rfl⟩
          case measure => simp [intOf]; omega
      · obtain rfl : k = L := by omega
        have hAll : Hid (allIn 0 ((P : Int) - 1) es = true) := Lib.hid (by have := hall.out; rwa [List.take_of_length_le (by rw [HE.out]; exact Nat.le_refl _)] at this)
        have hv : ∀ j, j < k → 0 ≤ nth es j ∧ nth es j ≤ 255 := fun j hj => by
          have := allIn_nth hAll.out (k := j) (by rw [HE.out]; exact hj)
          omega
        have HV := Lib.hid hv
        clear hv hall
        go_wp2_with fail
        (go_at_call 61; with_reducible refine (HPC.out _ HB1.out HV.out).mono ?_; rintro e3 w3 ⟨v3, rfl, ho3, hb3⟩)
        have HZ3 := Lib.hid (blk_below HZ1.out hb3 hz1a)
        have HB3 := Lib.hid (HB1.out.trans (hb3.mono (Nat.le_of_lt hz1a)))
        have HO3 := Lib.hid ho3
        obtain ⟨A3, c3, rfl, -⟩ := ho3.shape
        clear ho3 hb3
        obtain ⟨z0, z1, z2, zf⟩ := blk3 HZ3.out
        obtain ⟨s0, s1, s2⟩ := res3 HZ3.out (.int .i64 (N : Int)) (.int .i64 (N : Int)) (.slice A3 rs.length c3)
        go_wp2_with fail
        (try simp only [Exit.inBlock, Exit.then]); refine bodyPost_ret (by simp [results, Try.results18, go_sem, s0, s1, s2]; try rfl) rfl ?_
        rw [hAll.out]
        exact ⟨_, rfl, ((((HO3.out.setLt (p := ⟨w.heap.size, 0, none⟩) hz1a _).setLt (p := ⟨w.heap.size, 1, none⟩) hz1a _).setLt (p := ⟨w.heap.size, 2, none⟩) hz1a _)).more (Nat.le_of_lt hz1a),
          ((HB3.out.setCell (Nat.le_refl _) _).setCell (Nat.le_refl _) _).setCell (Nat.le_refl _) _⟩
  · rw [decide_eq_false hLq]
    have hne : ((L : Int) != (q : Int)) = true := by simp; omega
    simp only [cond_false]
    go_enter Try.func18, Try.ntmps18
    go_wp2_with first | (go_at_call 55; refine (l14Size_any _ _).mono ?_; rintro e w' ⟨rfl, rfl⟩) | (go_at_call 56; refine (l15Width_any _ _).mono ?_; rintro e w' ⟨rfl, rfl⟩)
    (go_at_call 58; with_reducible refine (HCN.out _).mono ?_; rintro e1 w1 ⟨rfl, hb1⟩; obtain ⟨hc1, hf1⟩ := bcell hb1; have hB1 : Below w.heap.size w w1 := (below_then (by first | (go_grown; done) | (repeat (first | (with_reducible assumption) | (with_reducible exact Below.refl _ _) | (with_reducible refine below_drewN' ?_ _) | (with_reducible refine Below.drew ?_) | ((with_reducible refine Below.alloc ?_ ?_ _); rotate_left; focus (first | (simp; done) | (simp; omega) | omega)) | ((with_reducible refine Below.setCell ?_ ?_ _); rotate_left; focus (first | (simp; done) | (simp; omega) | omega))))) (by first | omega | (simp; done) | (simp; omega)) hb1); have hz1a : w.heap.size < w1.heap.size := (by have := hb1.size; first | omega | (simp at this; omega)))
    have HZ1 := Lib.hid (blk_below HZ0.out hb1 (by simp))
    obtain ⟨z0, z1, z2, zf⟩ := blk3 HZ1.out
    obtain ⟨s0, s1, s2⟩ := res3 HZ1.out (.int .i64 0) (.int .i64 0) (.slice none 0 0)
    clear hc1 hf1
    go_wp2_with fail
    (try simp only [Exit.inBlock, Exit.then]); refine bodyPost_ret (by simp [results, Try.results18, go_sem, s0, s1, s2]; try rfl) rfl ?_
    exact ⟨_, rfl, by simpa using Own.nil, ((hB1.setCell (Nat.le_refl _) _).setCell (Nat.le_refl _) _).setCell (Nat.le_refl _) _⟩
end Go.Proofs.Yteghpageamehkaa
