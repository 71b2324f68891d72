/-
  Contracts of chapter 15: PlaceElements, the reference's outer function.
-/
import Derived.Test.YteghpageamehkaaC15H
namespace Go.Proofs.Yteghpageamehkaa
set_option linter.unusedSimpArgs false
open Go.RowKit

set_option maxRecDepth 20000 in
set_option maxHeartbeats 4000000 in
theorem sPlaceElements_any (n d : Int) (A : Option Addr) (L cp : Nat) (es : List Int) (w : World) (B : Nat) (hr : RI w B A L es) (hB : B ≤ w.heap.size) (hL : L ≤ 1100000) :
    Calls Try.prog 18 #[.int .i64 n, .int .i64 d, .slice A L cp] w fun e w' =>
      ∃ u, e = .returned (.tuple #[.agg #[.int .i64 (peN n d es), .int .i64 (peN n d es), u], .int .i64 (peC n d es)]) ∧ Own w' w.heap.size u (peL n d es) ∧ Below w.heap.size w w' := by
  have HR := Lib.hid (hr.more hB)
  have hlen := hr.len
  have HZ0 := Lib.hid (show (w.alloc (.cells #[.int .i64 0, .int .i64 0, .slice none 0 0] 37)).heap[w.heap.size]? = some (.cells #[.int .i64 0, .int .i64 0, .slice none 0 0] 37 (0, 0)) from heap_alloc_new _ _)
  clear hr
  unfold peC peN peL
  cases hs : sizeB n
  · obtain ⟨z0, z1, z2, zf⟩ := blk3 HZ0.out
    obtain ⟨s0, s1, s2⟩ := res3 HZ0.out (.int .i64 0) (.int .i64 0) (.slice none 0 0)
    go_enter Try.func18, Try.ntmps18
    go_wp2_with (go_at_call 55; refine (l14Size_any _ _).mono ?_; rintro e w' ⟨rfl, rfl⟩)
    (try simp only [Exit.inBlock, Exit.then]); refine bodyPost_ret (by simp [results, Try.results18, go_sem, s0, s1, s2]; try rfl) rfl ?_
    exact ⟨_, rfl, by simpa using Own.nil, by (repeat (first | (with_reducible assumption) | (with_reducible exact Below.refl _ _) | (with_reducible refine below_drewN' ?_ _) | (with_reducible refine Below.drew ?_) | ((with_reducible refine Below.alloc ?_ ?_ _); rotate_left; focus (first | (simp; done) | (simp; omega) | omega)) | ((with_reducible refine Below.setCell ?_ ?_ _); rotate_left; focus (first | (simp; done) | (simp; omega) | omega))))⟩
  cases hd : inR d 1 8
  · obtain ⟨z0, z1, z2, zf⟩ := blk3 HZ0.out
    obtain ⟨s0, s1, s2⟩ := res3 HZ0.out (.int .i64 0) (.int .i64 0) (.slice none 0 0)
    go_enter Try.func18, Try.ntmps18
    go_wp2_with first | (go_at_call 55; refine (l14Size_any _ _).mono ?_; rintro e w' ⟨rfl, rfl⟩) | (go_at_call 56; refine (l15Width_any _ _).mono ?_; rintro e w' ⟨rfl, rfl⟩)
    (try simp only [Exit.inBlock, Exit.then]); refine bodyPost_ret (by simp [results, Try.results18, go_sem, s0, s1, s2]; try rfl) rfl ?_
    exact ⟨_, rfl, by simpa using Own.nil, by (repeat (first | (with_reducible assumption) | (with_reducible exact Below.refl _ _) | (with_reducible refine below_drewN' ?_ _) | (with_reducible refine Below.drew ?_) | ((with_reducible refine Below.alloc ?_ ?_ _); rotate_left; focus (first | (simp; done) | (simp; omega) | omega)) | ((with_reducible refine Below.setCell ?_ ?_ _); rotate_left; focus (first | (simp; done) | (simp; omega) | omega))))⟩
  obtain ⟨N, rfl, h1, h2, h3⟩ := sizeB_true hs
  have hdr := inR_true hd
  obtain ⟨K, rfl⟩ := Int.eq_ofNat_of_zero_le (show 0 ≤ d by omega)
  have hN : 17 ≤ N ∧ N ≤ 41 ∧ N % 4 = 1 := ⟨h1, h2, h3⟩
  have hK1 : 1 ≤ K := by omega
  have hK2 : K ≤ 8 := by omega
  simp only [cond_true, Int.toNat_natCast]
  have HCN := Lib.hid (fun w => l14Count_any N w hN)
  have hMx := dataL_le h2
  have HPC := Lib.hid (fun (w' : World) (hb : Below w.heap.size w w') (hv : ∀ k, k < L → 0 ≤ nth es k ∧ nth es k ≤ 255) => l15Place_any N K A L cp es w' w.heap.size hN hK1 hK2 (HR.out.below hb) hb.size hL hv)
  obtain ⟨M, hMM⟩ : ∃ M, (dataL N).length = M := ⟨_, rfl⟩
  rw [hMM] at hMx HCN
  simp only [hMM, hlen] at HPC ⊢
  obtain ⟨q, hq⟩ : ∃ q, M / K = q := ⟨_, rfl⟩
  have hqi : (M : Int) / K = (q : Int) := by rw [← hq]; exact (Int.natCast_ediv M K).symm
  have hqM : q ≤ M := by rw [← hq]; exact Nat.div_le_self M K
  have hqw : IntKind.i64.wrap ((M : Int) / K) = (q : Int) := by rw [hqi]; exact i64_in (by omega)
  have hK0 : ¬ K = 0 := by omega
  simp only [hq]
  clear hMM hq hN h3 hqi
  by_cases hLq : L = q
  · subst hLq
    rw [decide_eq_true rfl]
    simp only [cond_true]
    have hne : ((L : Int) != (L : Int)) = false := by simp
    obtain ⟨P, hP⟩ : ∃ P, 2 ^ K = P := ⟨_, rfl⟩
    have hPi : (2 : Int) ^ K = (P : Int) := by rw [← hP]; simp
    have hPb := pow8 hK2
    rw [hP] at hPb
    rw [hPi]
    have HE := Lib.hid hlen
    obtain ⟨rs, hrs⟩ : ∃ rs, setL N (dataL N) (bitAt K es) (fixL N) M = rs := ⟨_, rfl⟩
    rw [hrs] at HPC ⊢
    clear hlen hP hrs
    go_enter Try.func18, Try.ntmps18
    go_wp2_with first | (go_at_call 55; refine (l14Size_any _ _).mono ?_; rintro e w' ⟨rfl, rfl⟩) | (go_at_call 56; refine (l15Width_any _ _).mono ?_; rintro e w' ⟨rfl, rfl⟩)
    (go_at_call 58; with_reducible refine (HCN.out _).mono ?_; rintro e1 w1 ⟨rfl, hb1⟩; obtain ⟨hc1, hf1⟩ := bcell hb1; have hB1 : Below w.heap.size w w1 := (below_then (by first | (go_grown; done) | (repeat (first | (with_reducible assumption) | (with_reducible exact Below.refl _ _) | (with_reducible refine below_drewN' ?_ _) | (with_reducible refine Below.drew ?_) | ((with_reducible refine Below.alloc ?_ ?_ _); rotate_left; focus (first | (simp; done) | (simp; omega) | omega)) | ((with_reducible refine Below.setCell ?_ ?_ _); rotate_left; focus (first | (simp; done) | (simp; omega) | omega))))) (by first | omega | (simp; done) | (simp; omega)) hb1); have hz1a : w.heap.size < w1.heap.size := (by have := hb1.size; first | omega | (simp at this; omega)))
    have HZ1 := Lib.hid (blk_below HZ0.out hb1 (by simp))
    have HB1 := Lib.hid hB1
    have HR1 := Lib.hid (HR.out.below hB1)
    clear hc1 hf1 hb1 hB1
    go_wp2_with fail
    go_loop [8] (fun i => ∃ k : Nat, k ≤ L ∧ i = .int .i64 k ∧ Hid (allIn 0 ((P : Int) - 1) (es.take k) = true)) (fun i => L - (intOf i).toNat)
    case atStart => exact ⟨0, Nat.zero_le _, rfl, rfl⟩
    case round =>
      obtain ⟨k, hk, rfl, hall⟩ := hrel
      by_cases hkl : k < L
      · obtain ⟨b, o, rfl, hb, hc⟩ := HR1.out.cells (by omega)
        have hck := hc k hkl
        have hat := Lib.hid (allIn_take (lo := 0) (hi := (P : Int) - 1) (xs := es) (k := k) (by rw [HE.out]; exact hkl))
        have haf := Lib.hid (fun e => allIn_false (lo := 0) (hi := (P : Int) - 1) (xs := es) (k := k) (by rw [HE.out]; exact hkl) e)
        generalize nth es k = x at hck hat haf
        clear hc
        cases hx : inR x 0 ((P : Int) - 1)
        · have hA := Lib.hid (haf.out hx)
          obtain ⟨z0, z1, z2, zf⟩ := blk3 HZ1.out
          obtain ⟨s0, s1, s2⟩ := res3 HZ1.out (.int .i64 0) (.int .i64 0) (.slice none 0 0)
          go_wp2_with (go_at_call 57; refine (l01In_any _ _ _ _).mono ?_; rintro e w' ⟨rfl, rfl⟩)
          (try simp only [Exit.inBlock, Exit.then]); refine bodyPost_ret (by simp [results, Try.results18, go_sem, s0, s1, s2]; try rfl) rfl ?_
          rw [hA.out]
          exact ⟨_, rfl, by simpa using Own.nil, ((HB1.out.setCell (Nat.le_refl _) _).setCell (Nat.le_refl _) _).setCell (Nat.le_refl _) _⟩
        · have hx' := Lib.hid hx
          go_wp2_with (go_at_call 57; refine (l01In_any _ _ _ _).mono ?_; rintro e w' ⟨rfl, rfl⟩)
          go_round
          case rel => exact ⟨k + 1, by omega, by go_num, by rw [hat.out, hall.out, hx'.out]; rfl⟩
          case measure => simp [intOf]; omega
      · obtain rfl : k = L := by omega
        have hAll : Hid (allIn 0 ((P : Int) - 1) es = true) := Lib.hid (by have := hall.out; rwa [List.take_of_length_le (by rw [HE.out]; exact Nat.le_refl _)] at this)
        have hv : ∀ j, j < k → 0 ≤ nth es j ∧ nth es j ≤ 255 := fun j hj => by
          have := allIn_nth hAll.out (k := j) (by rw [HE.out]; exact hj)
          omega
        have HV := Lib.hid hv
        clear hv hall
        go_wp2_with fail
        (go_at_call 61; with_reducible refine (HPC.out _ HB1.out HV.out).mono ?_; rintro e3 w3 ⟨v3, rfl, ho3, hb3⟩)
        have HZ3 := Lib.hid (blk_below HZ1.out hb3 hz1a)
        have HB3 := Lib.hid (HB1.out.trans (hb3.mono (Nat.le_of_lt hz1a)))
        have HO3 := Lib.hid ho3
        obtain ⟨A3, c3, rfl, -⟩ := ho3.shape
        clear ho3 hb3
        obtain ⟨z0, z1, z2, zf⟩ := blk3 HZ3.out
        obtain ⟨s0, s1, s2⟩ := res3 HZ3.out (.int .i64 (N : Int)) (.int .i64 (N : Int)) (.slice A3 rs.length c3)
        go_wp2_with fail
        (try simp only [Exit.inBlock, Exit.then]); refine bodyPost_ret (by simp [results, Try.results18, go_sem, s0, s1, s2]; try rfl) rfl ?_
        rw [hAll.out]
        exact ⟨_, rfl, ((((HO3.out.setLt (p := ⟨w.heap.size, 0, none⟩) hz1a _).setLt (p := ⟨w.heap.size, 1, none⟩) hz1a _).setLt (p := ⟨w.heap.size, 2, none⟩) hz1a _)).more (Nat.le_of_lt hz1a),
          ((HB3.out.setCell (Nat.le_refl _) _).setCell (Nat.le_refl _) _).setCell (Nat.le_refl _) _⟩
  · rw [decide_eq_false hLq]
    have hne : ((L : Int) != (q : Int)) = true := by simp; omega
    simp only [cond_false]
    go_enter Try.func18, Try.ntmps18
    go_wp2_with first | (go_at_call 55; refine (l14Size_any _ _).mono ?_; rintro e w' ⟨rfl, rfl⟩) | (go_at_call 56; refine (l15Width_any _ _).mono ?_; rintro e w' ⟨rfl, rfl⟩)
    (go_at_call 58; with_reducible refine (HCN.out _).mono ?_; rintro e1 w1 ⟨rfl, hb1⟩; obtain ⟨hc1, hf1⟩ := bcell hb1; have hB1 : Below w.heap.size w w1 := (below_then (by first | (go_grown; done) | (repeat (first | (with_reducible assumption) | (with_reducible exact Below.refl _ _) | (with_reducible refine below_drewN' ?_ _) | (with_reducible refine Below.drew ?_) | ((with_reducible refine Below.alloc ?_ ?_ _); rotate_left; focus (first | (simp; done) | (simp; omega) | omega)) | ((with_reducible refine Below.setCell ?_ ?_ _); rotate_left; focus (first | (simp; done) | (simp; omega) | omega))))) (by first | omega | (simp; done) | (simp; omega)) hb1); have hz1a : w.heap.size < w1.heap.size := (by have := hb1.size; first | omega | (simp at this; omega)))
    have HZ1 := Lib.hid (blk_below HZ0.out hb1 (by simp))
    obtain ⟨z0, z1, z2, zf⟩ := blk3 HZ1.out
    obtain ⟨s0, s1, s2⟩ := res3 HZ1.out (.int .i64 0) (.int .i64 0) (.slice none 0 0)
    clear hc1 hf1
    go_wp2_with fail
    (try simp only [Exit.inBlock, Exit.then]); refine bodyPost_ret (by simp [results, Try.results18, go_sem, s0, s1, s2]; try rfl) rfl ?_
    exact ⟨_, rfl, by simpa using Own.nil, ((hB1.setCell (Nat.le_refl _) _).setCell (Nat.le_refl _) _).setCell (Nat.le_refl _) _⟩
end Go.Proofs.Yteghpageamehkaa
