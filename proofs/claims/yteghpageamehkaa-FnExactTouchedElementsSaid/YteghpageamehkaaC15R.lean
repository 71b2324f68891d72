/-
  Contracts of chapter 15: TouchedElements, the reference.
-/
import Derived.Test.YteghpageamehkaaC15Q
import Derived.Test.YteghpageamehkaaC15P
import Derived.Test.YteghpageamehkaaC14A
import Derived.BigQuiet
namespace Go.Proofs.Yteghpageamehkaa
set_option linter.unusedSimpArgs false
open Go.RowKit

theorem nth_take {xs : List Int} {k q : Nat} (h : k < q) : nth (xs.take q) k = nth xs k := by
  unfold nth; simp [List.getD_eq_getElem?_getD, h]
set_option maxHeartbeats 1000000 in
theorem l07Indices_any (A : Option Addr) (n c : Nat) (xs : List Int) (w : World) (B : Nat) (hr : RI w B A n xs) (hB : B ≤ w.heap.size) (hn : n ≤ 100000) :
    Calls Try.prog 66 #[.slice A n c] w fun e w' => ∃ v, e = .returned v ∧ Own w' w.heap.size v (idxL (fun e => !decide (nth xs e = 0)) n) ∧ Below w.heap.size w w' := by
  obtain ⟨i0, hi⟩ := info_own' info_i64s
  have HI := Lib.hid (And.intro i0.bytes.le_refl hi)
  have HL := Lib.hid hr.len
  have HR := Lib.hid (hr.more hB)
  have HE0 : Hid (Own (w.alloc (.cells #[] 2)) w.heap.size (.slice (some ⟨w.heap.size, 0, none⟩) 0 0) []) := Lib.hid (World.ownsRow_made (e := 2) (size := 1) (base := w.heap.size) w #[] 0 (Nat.le_refl _) (by unfold maxLen; omega) rfl)
  have HBE : Hid (Below w.heap.size w (w.alloc (.cells #[] 2))) := Lib.hid (by go_grown)
  clear hi hr
  go_enter Try.func66, Try.ntmps66
  go_wp2_with fail
  go_loopw [3, 4] (fun s i wr => ∃ m : Nat, m ≤ n ∧ i = .int .i64 m ∧ Hid (Own wr w.heap.size s (idxL (fun e => !decide (nth xs e = 0)) m)) ∧ Hid (Below w.heap.size w wr))
    (fun _ i _ => n - (intOf i).toNat)
  case atStart => exact ⟨0, Nat.zero_le _, rfl, HE0, HBE⟩
  case round =>
    rename World => wq
    obtain ⟨m, hm, rfl, hout, hbq⟩ := hrel
    have hsq := hbq.out.size
    by_cases hml : m < n
    · obtain ⟨b, o, rfl, hb, hc⟩ := (HR.out.below hbq.out).cells (by omega)
      have hck := hc m hml
      have hst : idxL (fun e => !decide (nth xs e = 0)) (m + 1) = bif !decide (nth xs m = 0) then idxL (fun e => !decide (nth xs e = 0)) m ++ [(m : Int)] else idxL (fun e => !decide (nth xs e = 0)) m := rfl
      have hll := idxL_len (fun e => !decide (nth xs e = 0)) m
      generalize nth xs m = x at hck hst
      generalize idxL (fun e => !decide (nth xs e = 0)) m = ys at hout hst hll
      have hbsz := Lib.hid hsq
      clear hc
      by_cases hx : x = 0
      · subst hx
        have HS := Lib.hid (show idxL (fun e => !decide (nth xs e = 0)) (m + 1) = ys by rw [hst]; rfl)
        clear hst
        go_wp2_with fail
        go_roundw
        case rel => exact ⟨m + 1, by omega, by go_num, Lib.hid (by rw [HS.out]; exact hout.out), hbq⟩
        case measure => simp [intOf]; omega
      · have HS := Lib.hid (show idxL (fun e => !decide (nth xs e = 0)) (m + 1) = ys ++ [(m : Int)] by rw [hst, decide_eq_false hx]; rfl)
        have hx' : (x != 0) = true := by simpa using hx
        clear hst
        go_wp2_with (at_builtin; refine wpList_append_own _ rfl _ _ 35 rfl (w.heap.size) 2 i0 (.int .i64 0) 1 8 Try.underlying35 HI.out.2.1 HI.out.2.2.1 HI.out.2.2.2.1 HI.out.2.2.2.2 rfl (by decide) _ _ _ rfl (Own.alloc hout.out _) ⟨wq.heap.size, 0, none⟩ 1 1 [.int .i64 ((m : Int))] rfl rfl (cell_one_new _ _ _) (one_ok _) (own_max hout.out (by omega)) (own_bytes hout.out (by omega)) (own_base hbsz.out) ?_; intro va wa howna hgrowa _; have hoa := Lib.hid (Own.snoc howna); have hga := Lib.hid hgrowa; clear howna hgrowa)
        go_roundw
        case rel => exact ⟨m + 1, by omega, by go_num, Lib.hid (by rw [HS.out]; exact hoa.out), Lib.hid (Own.below_grown hout.out hbq.out hsq hga.out)⟩
        case measure => simp [intOf]; omega
    · obtain rfl : m = n := by omega
      go_wp2_with fail
      go_ret
      exact ⟨_, rfl, hout.out, hbq.out⟩
set_option maxRecDepth 20000 in
set_option maxHeartbeats 4000000 in
theorem sTouchedElements_any (n d : Int) (A : Option Addr) (L cp : Nat) (qs : List (Int × Int)) (w : World) (B : Nat) (hr : RIP w B A L qs) (hB : B ≤ w.heap.size) (hL : L ≤ 2000000) :
    Calls Try.prog 27 #[.int .i64 n, .int .i64 d, .slice A L cp] w fun e w' =>
      ∃ u, e = .returned (.tuple #[u, .int .i64 (tuC n d qs)]) ∧ Own w' w.heap.size u (tuL n d qs) ∧ Below w.heap.size w w' := by
  have HR := Lib.hid (hr.more hB)
  have hlen := hr.len
  clear hr
  unfold tuC tuL
  cases hs : sizeB n
  · go_enter Try.func27, Try.ntmps27
    go_wp2_with (go_at_call 55; refine (l14Size_any _ _).mono ?_; rintro e w' ⟨rfl, rfl⟩)
    go_returns
    exact ⟨.slice none 0 0, by simp, by simpa using Own.nil, by (repeat (first | (with_reducible assumption) | (with_reducible exact Below.refl _ _) | (with_reducible refine below_drewN' ?_ _) | (with_reducible refine Below.drew ?_) | ((with_reducible refine Below.alloc ?_ ?_ _); rotate_left; focus (first | (simp; done) | (simp; omega) | omega)) | ((with_reducible refine Below.setCell ?_ ?_ _); rotate_left; focus (first | (simp; done) | (simp; omega) | omega))))⟩
  cases hd : inR d 1 8
  · go_enter Try.func27, Try.ntmps27
    go_wp2_with first | (go_at_call 55; refine (l14Size_any _ _).mono ?_; rintro e w' ⟨rfl, rfl⟩) | (go_at_call 56; refine (l15Width_any _ _).mono ?_; rintro e w' ⟨rfl, rfl⟩)
    go_returns
    exact ⟨.slice none 0 0, by simp, by simpa using Own.nil, by (repeat (first | (with_reducible assumption) | (with_reducible exact Below.refl _ _) | (with_reducible refine below_drewN' ?_ _) | (with_reducible refine Below.drew ?_) | ((with_reducible refine Below.alloc ?_ ?_ _); rotate_left; focus (first | (simp; done) | (simp; omega) | omega)) | ((with_reducible refine Below.setCell ?_ ?_ _); rotate_left; focus (first | (simp; done) | (simp; omega) | omega))))⟩
  obtain ⟨N, rfl, h1, h2, h3⟩ := sizeB_true hs
  have hdr := inR_true hd
  obtain ⟨K, rfl⟩ := Int.eq_ofNat_of_zero_le (show 0 ≤ d by omega)
  have hN : 17 ≤ N ∧ N ≤ 41 ∧ N % 4 = 1 := ⟨h1, h2, h3⟩
  simp only [cond_true, Int.toNat_natCast]
  by_cases hbig : L ≤ 40000
  · have hbi : (L : Int) ≤ 40000 := by omega
    have hdl : decide (qs.length ≤ 40000) = true := by rw [hlen]; exact decide_eq_true hbig
    rw [hdl]
    simp only [cond_true]
    have hsame : idxL (nthBo (tchB (dataL N) qs K ((dataL N).length / K) qs.length)) ((dataL N).length / K) = idxL (fun e => !decide (nth (mrkL (dataL N) qs K (dataL N).length (dataL N).length) e = 0)) ((dataL N).length / K) :=
      idxL_congr fun e he => tch_same hN he (Nat.div_le_self _ _)
    rw [hsame]
    have HD := Lib.hid (fun w => l15Places_any N w hN)
    have hMx := dataL_le h2
    obtain ⟨ps, hps⟩ : ∃ ps, dataL N = ps := ⟨_, rfl⟩
    have HD : Hid (∀ w, Calls Try.prog 59 #[.int .i64 N] w fun e w' => ∃ v, e = .returned v ∧ OwnP w' w.heap.size v ps ∧ Below w.heap.size w w') := Lib.hid (by rw [← hps]; exact HD.out)
    have hM0 := data_pos hN
    rw [hps] at hMx hM0 ⊢
    obtain ⟨M, hMM⟩ : ∃ M, ps.length = M := ⟨_, rfl⟩
    have HLP := Lib.hid hMM
    rw [hMM] at hMx hM0 ⊢
    obtain ⟨q, hq⟩ : ∃ q, M / K = q := ⟨_, rfl⟩
    have hqi : (M : Int) / K = (q : Int) := by rw [← hq]; exact (Int.natCast_ediv M K).symm
    have hqM : q ≤ M := by rw [← hq]; exact Nat.div_le_self M K
    have hqw : IntKind.i64.wrap ((M : Int) / K) = (q : Int) := by rw [hqi]; exact i64_in (by omega)
    have hK0 : ¬ K = 0 := by omega
    rw [hq]
    obtain ⟨i0, hi⟩ := info_own' info_i64s
    have HI := Lib.hid (And.intro i0.bytes.le_refl hi)
    have HE := Lib.hid hlen
    clear hps hMM hq hN h3 hqi hi hlen hsame hdl
    go_enter Try.func27, Try.ntmps27
    go_wp2_with first | (go_at_call 55; refine (l14Size_any _ _).mono ?_; rintro e w' ⟨rfl, rfl⟩) | (go_at_call 56; refine (l15Width_any _ _).mono ?_; rintro e w' ⟨rfl, rfl⟩)
    (go_at_call 59; with_reducible refine (HD.out _).mono ?_; rintro e1 w1 ⟨v1, rfl, ho1, hb1⟩)
    have hs1 := hb1.size
    obtain ⟨gp, c1, rfl, hgp, hgp1, -⟩ := ho1.cells (by rw [HLP.out]; exact hM0)
    rw [HLP.out] at ho1 ⊢
    have HP1 := Lib.hid (RP.of ho1 HLP.out hM0)
    have HB1 := Lib.hid hb1
    clear ho1 hb1
    go_wp2_with (at_make; refine wpList_make_full w1 rfl _ _ 35 rfl w1.heap.size 2 i0 (.int .i64 0) 1 Try.underlying35 HI.out.2.1 HI.out.2.2.1 HI.out.2.2.2.1 .i64 .i64 M M M (by rfl) (by rfl) rfl rfl (by rw [HI.out.2.2.2.2]; omega) (by unfold maxLen; omega) (Nat.le_refl _) ?_; intro w2 hown2 hgrow2)
    have HO2 : Hid (Own w2 w1.heap.size (.slice (some ⟨w1.heap.size, 0, none⟩) M M) (List.replicate M 0)) := Lib.hid (by have := Own.made_zero hown2; simpa using this)
    have HB2 : Hid (Below w1.heap.size w1 w2) := Lib.hid ((Below.refl _ _).grown hgrow2 (Nat.le_refl _) (fun k hk => by cases hk))
    clear hown2 hgrow2
    go_wp2_with fail
    go_loopw [10] (fun i wr => ∃ k : Nat, k ≤ M ∧ i = .int .i64 k ∧ Hid (Own wr w1.heap.size (.slice (some ⟨w1.heap.size, 0, none⟩) M M) (mrkL ps qs K M k)) ∧ Hid (Below w1.heap.size w1 wr))
      (fun i _ => M - (intOf i).toNat)
    case atStart => exact ⟨0, Nat.zero_le _, rfl, HO2, HB2⟩
    case round =>
      rename World => wo
      obtain ⟨k, hk, rfl, hown, hbel⟩ := hrel
      have hso := hbel.out.size
      have HBo := Lib.hid (HB1.out.trans (hbel.out.mono hs1))
      have hml := mrkL_len ps qs K M k
      obtain ⟨g', c', e', -, hgl, hcc, hff⟩ := hown.out.row (by rw [hml]; exact hM0)
      rw [hml] at e' hcc
      simp only [Value.slice.injEq, Option.some.injEq, Addr.mk.injEq, and_true] at e'
      obtain ⟨rfl, -⟩ := e'
      by_cases hkl : k < M
      · obtain ⟨-, -, hpc⟩ := HP1.out.below hbel.out (Nat.le_refl _)
        obtain ⟨p0, p1⟩ := hpc k (by rw [HLP.out]; exact hkl)
        have hst : mrkL ps qs K M (k + 1) = bif isQ qs (nthP ps k) then (mrkL ps qs K M k).set (k / K) 1 else mrkL ps qs K M k := rfl
        obtain ⟨E, hE⟩ : ∃ E, k / K = E := ⟨_, rfl⟩
        have hEw : IntKind.i64.wrap ((k : Int) / K) = (E : Int) := by rw [← Int.natCast_ediv, hE]; exact i64_in (by have := Nat.div_le_self k K; omega)
        have hEM : E < M := by rw [← hE]; exact Nat.lt_of_le_of_lt (Nat.div_le_self k K) hkl
        rw [hE] at hst
        generalize mrkL ps qs K M k = ms at hown hml hst hcc
        generalize nthP ps k = p at p0 p1 hst
        obtain ⟨pr, pc'⟩ := p
        simp only at p0 p1
        have HIS := Lib.hid (fun (m : Nat) => l14Is_any A L cp qs pr pc' (wo.drewN m) w.heap.size (HR.out.below (below_drewN' HBo.out m)) (by omega))
        have hck := hcc E hEM
        have hfk := hff E
        have HML := Lib.hid hml
        have hz1 : gp < wo.heap.size := by omega
        clear hE hcc hff hpc hml
        cases hq2 : isQ qs (pr, pc') with
        | true =>
          rw [hq2] at HIS hst
          have HS := Lib.hid hst
          clear hst hq2
          go_wp2_with fail
          go_quiet ((go_at_call 65; exact (HIS.out _).mono (fun _ _ h => ⟨h.1, _, h.2.symm⟩)))
          go_wp2_with fail
          go_roundw
          case rel => exact ⟨k + 1, by omega, by go_num, Lib.hid (by rw [HS.out]; exact Own.setn HML.out (hown.out.drewN nq)), Lib.hid ((below_drewN' hbel.out nq).setCell (Nat.le_refl _) _)⟩
          case measure => simp [intOf]; omega
        | false =>
          rw [hq2] at HIS hst
          have HS := Lib.hid hst
          clear hst hq2
          go_wp2_with fail
          go_quiet ((go_at_call 65; exact (HIS.out _).mono (fun _ _ h => ⟨h.1, _, h.2.symm⟩)))
          go_wp2_with fail
          go_roundw
          case rel => exact ⟨k + 1, by omega, by go_num, Lib.hid (by rw [HS.out]; exact hown.out.drewN nq), Lib.hid (below_drewN' hbel.out nq)⟩
          case measure => simp [intOf]; omega
      · obtain rfl : k = M := by omega
        obtain ⟨ms, hms⟩ : ∃ ms, mrkL ps qs K k k = ms := ⟨_, rfl⟩
        rw [hms] at hown hml hcc
        have HMS := Lib.hid hms
        have HRI : Hid (RI wo wo.heap.size (some ⟨w1.heap.size, 0, none⟩) q (ms.take q)) := Lib.hid ⟨by rw [List.length_take]; omega, fun h0 => ⟨w1.heap.size, 0, rfl, hgl, fun j hj => by rw [Nat.zero_add, nth_take hj]; exact hcc j (by omega)⟩⟩
        have hsm := Lib.hid (idxL_congr (m := q) (f := fun e => !decide (nth (ms.take q) e = 0)) (g := fun e => !decide (nth ms e = 0)) (fun e he => by simp only [nth_take he]))
        have hwo : w.heap.size ≤ wo.heap.size := by omega
        have hqk : (q : Int) ≤ k := by omega
        clear hms hcc hff hml
        go_wp2_with fail
        (go_at_call 66; with_reducible refine (l07Indices_any _ q _ (ms.take q) _ _ HRI.out (Nat.le_refl _) (by omega)).mono ?_; rintro e5 w5 ⟨v5, rfl, ho5, hb5⟩)
        have HO5 := Lib.hid ho5
        have HB5 := Lib.hid (HBo.out.trans (hb5.mono hwo))
        clear ho5 hb5
        go_wp2_with fail
        go_returns
        rw [HMS.out, ← hsm.out]
        exact ⟨_, by simp, HO5.out.more hwo, HB5.out⟩
  · have hbi : ¬ (L : Int) ≤ 40000 := by omega
    have hdl : decide (qs.length ≤ 40000) = false := by rw [hlen]; exact decide_eq_false hbig
    rw [hdl]
    go_enter Try.func27, Try.ntmps27
    go_wp2_with first | (go_at_call 55; refine (l14Size_any _ _).mono ?_; rintro e w' ⟨rfl, rfl⟩) | (go_at_call 56; refine (l15Width_any _ _).mono ?_; rintro e w' ⟨rfl, rfl⟩)
    go_returns
    exact ⟨.slice none 0 0, by simp, by simpa using Own.nil, by (repeat (first | (with_reducible assumption) | (with_reducible exact Below.refl _ _) | (with_reducible refine below_drewN' ?_ _) | (with_reducible refine Below.drew ?_) | ((with_reducible refine Below.alloc ?_ ?_ _); rotate_left; focus (first | (simp; done) | (simp; omega) | omega)) | ((with_reducible refine Below.setCell ?_ ?_ _); rotate_left; focus (first | (simp; done) | (simp; omega) | omega))))⟩
end Go.Proofs.Yteghpageamehkaa
