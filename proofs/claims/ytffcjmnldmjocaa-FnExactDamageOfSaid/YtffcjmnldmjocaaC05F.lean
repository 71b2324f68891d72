/-
  Contracts of chapter 5: the damage of a word, both sides.
-/
import Derived.Test.YtffcjmnldmjocaaC05E
namespace Go.Proofs.Ytffcjmnldmjocaa
set_option linter.unusedSimpArgs false
open Go.RowKit

theorem dmC_cases (c wd ind : Bool) : (dmC c wd ind = 0 ∧ c = true ∧ wd = true ∧ ind = true) ∨ (dmC c wd ind = 1 ∧ c = false) ∨ (dmC c wd ind = 2 ∧ c = true ∧ wd = false) ∨ (dmC c wd ind = 5 ∧ c = true ∧ wd = true ∧ ind = false) := by
  cases c <;> cases wd <;> cases ind <;> simp [dmC]
theorem wordB_len {p k len : Int} {xs : List Int} (h : wordB p k len xs = true) : (xs.length : Int) = len := by
  simp only [wordB, Bool.and_eq_true, beq_iff_eq] at h
  exact h.1
set_option maxHeartbeats 4000000 in
theorem DamageOf_any (p k g len chk : Int) (n1 c1 n2 c2 n3 c3 : Nat) (A1 A2 A3 : Option Addr) (xs ys er : List Int) (w : World) (h1 : RI w w.heap.size A1 n1 xs) (h2 : RI w w.heap.size A2 n2 ys) (h3 : RI w w.heap.size A3 n3 er) (l1 : n1 ≤ 1000000000000) (l2 : n2 ≤ 1000000000000) (l3 : n3 ≤ 1000000000000) :
    Calls Try.prog 15 #[.agg #[.int .i64 p, .int .i64 k, .int .i64 g, .int .i64 len, .int .i64 chk], .slice A1 n1 c1, .slice A2 n2 c2, .slice A3 n3 c3] w fun e w' => e = .returned (.tuple #[.int .i64 (dmV (codeB p k g len chk) (wordB p k len xs && wordB p k len ys) (risB 0 (len - 1) er) ((n3 : Int) + dmgN xs ys er n1)), .int .i64 (dmC (codeB p k g len chk) (wordB p k len xs && wordB p k len ys) (risB 0 (len - 1) er))]) ∧ Below w.heap.size w w' := by
  have HW := Lib.hid (fun (gl cp : Nat) (t : TypeId) (w' : World) (hb : Below w.heap.size w w') (hh : w'.heap[gl]? = some (.cells #[.slice A1 n1 c1, .slice A2 n2 c2] t (0, 0))) => words2_any p k g len chk gl cp n1 c1 n2 c2 A1 A2 xs ys t w' hh ((h1.below hb).more hb.size) ((h2.below hb).more hb.size) l1 l2)
  cases hc : codeB p k g len chk
  · rw [hc] at HW
    have h0 : Hid (dmC false (wordB p k len xs && wordB p k len ys) (risB 0 (len - 1) er) = 1) := Lib.hid rfl
    clear hc h1 h2 h3
    rw [show wcC false (wordB p k len xs && wordB p k len ys) = 1 from rfl] at HW
    rw [dmV, h0.out]
    go_enter Try.func15, Try.ntmps15
    go_wp2_with fail
    go_at_call 39
    refine (HW.out _ _ _ _ (by (repeat (first | (with_reducible assumption) | (with_reducible exact Below.refl _ _) | (with_reducible refine below_drewN' ?_ _) | (with_reducible refine Below.drew ?_) | ((with_reducible refine Below.alloc ?_ ?_ _); rotate_left; focus (first | (simp; done) | (simp; omega) | omega)) | ((with_reducible refine Below.setCell ?_ ?_ _); rotate_left; focus (first | (simp; done) | (simp; omega) | omega))))) (heap_alloc_at (by simp))).mono ?_
    rintro e1 w1 ⟨v1, rfl, hb1⟩
    have hB1 : Below w.heap.size w w1 := below_then (by (repeat (first | (with_reducible assumption) | (with_reducible exact Below.refl _ _) | (with_reducible refine below_drewN' ?_ _) | (with_reducible refine Below.drew ?_) | ((with_reducible refine Below.alloc ?_ ?_ _); rotate_left; focus (first | (simp; done) | (simp; omega) | omega)) | ((with_reducible refine Below.setCell ?_ ?_ _); rotate_left; focus (first | (simp; done) | (simp; omega) | omega))))) (by simp; omega) hb1
    go_wp2_with fail
    go_returns
    exact ⟨rfl, hB1⟩
  cases hw : (wordB p k len xs && wordB p k len ys)
  · rw [hc, hw] at HW
    have h0 : Hid (dmC true false (risB 0 (len - 1) er) = 2) := Lib.hid rfl
    clear hc h1 h2 h3 hw
    rw [show wcC true false = 2 from rfl] at HW
    rw [dmV, h0.out]
    go_enter Try.func15, Try.ntmps15
    go_wp2_with fail
    go_at_call 39
    refine (HW.out _ _ _ _ (by (repeat (first | (with_reducible assumption) | (with_reducible exact Below.refl _ _) | (with_reducible refine below_drewN' ?_ _) | (with_reducible refine Below.drew ?_) | ((with_reducible refine Below.alloc ?_ ?_ _); rotate_left; focus (first | (simp; done) | (simp; omega) | omega)) | ((with_reducible refine Below.setCell ?_ ?_ _); rotate_left; focus (first | (simp; done) | (simp; omega) | omega))))) (heap_alloc_at (by simp))).mono ?_
    rintro e1 w1 ⟨v1, rfl, hb1⟩
    have hB1 : Below w.heap.size w w1 := below_then (by (repeat (first | (with_reducible assumption) | (with_reducible exact Below.refl _ _) | (with_reducible refine below_drewN' ?_ _) | (with_reducible refine Below.drew ?_) | ((with_reducible refine Below.alloc ?_ ?_ _); rotate_left; focus (first | (simp; done) | (simp; omega) | omega)) | ((with_reducible refine Below.setCell ?_ ?_ _); rotate_left; focus (first | (simp; done) | (simp; omega) | omega))))) (by simp; omega) hb1
    go_wp2_with fail
    go_returns
    exact ⟨rfl, hB1⟩
  rw [hc, hw] at HW
  rw [show wcC true true = 0 from rfl] at HW
  have hww := hw
  simp only [Bool.and_eq_true] at hww
  have HD := Lib.hid (fun (w' : World) (hb : Below w.heap.size w w') => cdamaged_any p k g len chk n1 c1 n3 c3 A1 A3 xs er w' ((h1.below hb).more hb.size) ((h3.below hb).more hb.size) l1 l3 hc hww.1)
  have hlx := wordB_len hww.1
  have hly := wordB_len hww.2
  have hl := codeB_len hc
  rw [h1.len] at hlx
  rw [h2.len] at hly
  have hnn : n1 = n2 := by omega
  subst hnn
  have hn255 : n1 ≤ 255 := by omega
  cases hi : risB 0 (len - 1) er
  · rw [hi] at HD
    clear hc h1 h2 h3 hw hww hi hlx hly hl
    go_enter Try.func15, Try.ntmps15
    go_wp2_with fail
    go_at_call 39
    refine (HW.out _ _ _ _ (by (repeat (first | (with_reducible assumption) | (with_reducible exact Below.refl _ _) | (with_reducible refine below_drewN' ?_ _) | (with_reducible refine Below.drew ?_) | ((with_reducible refine Below.alloc ?_ ?_ _); rotate_left; focus (first | (simp; done) | (simp; omega) | omega)) | ((with_reducible refine Below.setCell ?_ ?_ _); rotate_left; focus (first | (simp; done) | (simp; omega) | omega))))) (heap_alloc_at (by simp))).mono ?_
    rintro e1 w1 ⟨v1, rfl, hb1⟩
    have hB1 : Below w.heap.size w w1 := below_then (by (repeat (first | (with_reducible assumption) | (with_reducible exact Below.refl _ _) | (with_reducible refine below_drewN' ?_ _) | (with_reducible refine Below.drew ?_) | ((with_reducible refine Below.alloc ?_ ?_ _); rotate_left; focus (first | (simp; done) | (simp; omega) | omega)) | ((with_reducible refine Below.setCell ?_ ?_ _); rotate_left; focus (first | (simp; done) | (simp; omega) | omega))))) (by simp; omega) hb1
    have hh1 := blk_below (blk_alloc (heap_alloc_new w (.cells #[.int .i64 p, .int .i64 k, .int .i64 g, .int .i64 len, .int .i64 chk] 39)) (by simp)) hb1 (by simp; omega)
    obtain ⟨y0, y1, y2, y3, y4, -⟩ := blk5 hh1
    clear hb1 hh1
    go_wp2_with fail
    go_at_call 40
    refine (HD.out _ (by (repeat (first | (with_reducible assumption) | (with_reducible exact Below.refl _ _) | (with_reducible refine below_drewN' ?_ _) | (with_reducible refine Below.drew ?_) | ((with_reducible refine Below.alloc ?_ ?_ _); rotate_left; focus (first | (simp; done) | (simp; omega) | omega)) | ((with_reducible refine Below.setCell ?_ ?_ _); rotate_left; focus (first | (simp; done) | (simp; omega) | omega)))))).mono ?_
    rintro e2 w2 ⟨b2, rfl, hb2⟩
    have hB2 : Below w.heap.size w w2 := below_then (by (repeat (first | (with_reducible assumption) | (with_reducible exact Below.refl _ _) | (with_reducible refine below_drewN' ?_ _) | (with_reducible refine Below.drew ?_) | ((with_reducible refine Below.alloc ?_ ?_ _); rotate_left; focus (first | (simp; done) | (simp; omega) | omega)) | ((with_reducible refine Below.setCell ?_ ?_ _); rotate_left; focus (first | (simp; done) | (simp; omega) | omega))))) hB1.size hb2
    go_wp2_with fail
    go_returns
    exact ⟨rfl, hB2⟩
  · rw [hi] at HD
    have HR1 := Lib.hid (fun (w' : World) (hb : Below w.heap.size w w') => h1.below hb)
    have HR2 := Lib.hid (fun (w' : World) (hb : Below w.heap.size w w') => h2.below hb)
    have HH := Lib.hid (fun (x : Int) (w' : World) (hb : Below w.heap.size w w') => holds_any x A3 n3 c3 er w' w.heap.size (h3.below hb) (by omega))
    clear hc h1 h2 h3 hw hww hi hlx hly hl
    go_enter Try.func15, Try.ntmps15
    go_wp2_with fail
    go_at_call 39
    refine (HW.out _ _ _ _ (by (repeat (first | (with_reducible assumption) | (with_reducible exact Below.refl _ _) | (with_reducible refine below_drewN' ?_ _) | (with_reducible refine Below.drew ?_) | ((with_reducible refine Below.alloc ?_ ?_ _); rotate_left; focus (first | (simp; done) | (simp; omega) | omega)) | ((with_reducible refine Below.setCell ?_ ?_ _); rotate_left; focus (first | (simp; done) | (simp; omega) | omega))))) (heap_alloc_at (by simp))).mono ?_
    rintro e1 w1 ⟨v1, rfl, hb1⟩
    have hB1 : Below w.heap.size w w1 := below_then (by (repeat (first | (with_reducible assumption) | (with_reducible exact Below.refl _ _) | (with_reducible refine below_drewN' ?_ _) | (with_reducible refine Below.drew ?_) | ((with_reducible refine Below.alloc ?_ ?_ _); rotate_left; focus (first | (simp; done) | (simp; omega) | omega)) | ((with_reducible refine Below.setCell ?_ ?_ _); rotate_left; focus (first | (simp; done) | (simp; omega) | omega))))) (by simp; omega) hb1
    have hh1 := blk_below (blk_alloc (heap_alloc_new w (.cells #[.int .i64 p, .int .i64 k, .int .i64 g, .int .i64 len, .int .i64 chk] 39)) (by simp)) hb1 (by simp; omega)
    obtain ⟨y0, y1, y2, y3, y4, -⟩ := blk5 hh1
    clear hb1 hh1
    go_wp2_with fail
    go_at_call 40
    refine (HD.out _ (by (repeat (first | (with_reducible assumption) | (with_reducible exact Below.refl _ _) | (with_reducible refine below_drewN' ?_ _) | (with_reducible refine Below.drew ?_) | ((with_reducible refine Below.alloc ?_ ?_ _); rotate_left; focus (first | (simp; done) | (simp; omega) | omega)) | ((with_reducible refine Below.setCell ?_ ?_ _); rotate_left; focus (first | (simp; done) | (simp; omega) | omega)))))).mono ?_
    rintro e2 w2 ⟨b2, rfl, hb2⟩
    have hB2 : Below w.heap.size w w2 := below_then (by (repeat (first | (with_reducible assumption) | (with_reducible exact Below.refl _ _) | (with_reducible refine below_drewN' ?_ _) | (with_reducible refine Below.drew ?_) | ((with_reducible refine Below.alloc ?_ ?_ _); rotate_left; focus (first | (simp; done) | (simp; omega) | omega)) | ((with_reducible refine Below.setCell ?_ ?_ _); rotate_left; focus (first | (simp; done) | (simp; omega) | omega))))) hB1.size hb2
    have HB2 := Lib.hid hB2
    clear hb2 y0 y1 y2 y3 y4 hB2 hB1 HW HD
    go_wp2_with fail
    go_loop [13, 45] (fun q i => ∃ m : Nat, m ≤ n1 ∧ i = .int .i64 m ∧ q = .int .i64 ((n3 : Int) + dmgN xs ys er m)) (fun _ i => n1 - (intOf i).toNat)
    case atStart => exact ⟨0, Nat.zero_le _, rfl, by simp [dmgN]⟩
    case round =>
      obtain ⟨m, hm, rfl, rfl⟩ := hrel
      by_cases hlt : m < n1
      · obtain ⟨b, o, rfl, -, hca⟩ := (HR1.out _ HB2.out).cells (by omega)
        obtain ⟨b', o', rfl, -, hcb⟩ := (HR2.out _ HB2.out).cells (by omega)
        have hka := hca m hlt
        have hkb := hcb m hlt
        clear hca hcb
        have hle := dmgN_le xs ys er m
        have hst : dmgN xs ys er (m + 1) = dmgN xs ys er m + if nth xs m ≠ nth ys m ∧ hasB m er = false then 2 else 0 := rfl
        have HHm := Lib.hid (HH.out m w2 HB2.out)
        generalize dmgN xs ys er m = D at *
        by_cases he : nth xs m = nth ys m
        · have HE : Hid (dmgN xs ys er (m + 1) = D) := Lib.hid (by rw [hst, if_neg (by simp [he]), Nat.add_zero])
          rw [he] at hka
          have hne : (nth ys m != nth ys m) = false := by simp
          clear he hst
          go_wp2_with fail
          go_round
          case rel => exact ⟨m + 1, by omega, by go_num, by rw [HE.out]⟩
          case measure => simp [intOf]; omega
        · have hne : (nth xs m != nth ys m) = true := by simpa using he
          cases hh : hasB m er
          · rw [hh] at HHm
            have HE : Hid (dmgN xs ys er (m + 1) = D + 2) := Lib.hid (by rw [hst, if_pos ⟨he, hh⟩])
            clear he hst hh
            go_wp2_with (go_at_call 41; refine (HHm.out).mono ?_; rintro e w' ⟨rfl, rfl⟩)
            go_round
            case rel => exact ⟨m + 1, by omega, by go_num, by rw [HE.out]; go_num⟩
            case measure => simp [intOf]; omega
          · rw [hh] at HHm
            have HE : Hid (dmgN xs ys er (m + 1) = D) := Lib.hid (by rw [hst, if_neg (by simp [hh]), Nat.add_zero])
            clear he hst hh
            go_wp2_with (go_at_call 41; refine (HHm.out).mono ?_; rintro e w' ⟨rfl, rfl⟩)
            go_round
            case rel => exact ⟨m + 1, by omega, by go_num, by rw [HE.out]⟩
            case measure => simp [intOf]; omega
      · obtain rfl : m = n1 := by omega
        go_wp2_with fail
        go_returns
        exact ⟨by simp [dmV, dmC], HB2.out⟩
set_option maxHeartbeats 4000000 in
theorem sDamageOf_any (p k g len chk : Int) (n1 c1 n2 c2 n3 c3 : Nat) (A1 A2 A3 : Option Addr) (xs ys er : List Int) (w : World) (h1 : RI w w.heap.size A1 n1 xs) (h2 : RI w w.heap.size A2 n2 ys) (h3 : RI w w.heap.size A3 n3 er) (l1 : n1 ≤ 1000000000000) (l2 : n2 ≤ 1000000000000) (l3 : n3 ≤ 1000000000000) :
    Calls Try.prog 12 #[.agg #[.int .i64 p, .int .i64 k, .int .i64 g, .int .i64 len, .int .i64 chk], .slice A1 n1 c1, .slice A2 n2 c2, .slice A3 n3 c3] w fun e w' => e = .returned (.tuple #[.int .i64 (dmV (codeB p k g len chk) (wordB p k len xs && wordB p k len ys) (risB 0 (len - 1) er) ((n3 : Int) + dmgN xs ys er n1)), .int .i64 (dmC (codeB p k g len chk) (wordB p k len xs && wordB p k len ys) (risB 0 (len - 1) er))]) ∧ Below w.heap.size w w' := by
  have HW := Lib.hid (fun (gl cp : Nat) (t : TypeId) (w' : World) (hb : Below w.heap.size w w') (hh : w'.heap[gl]? = some (.cells #[.slice A1 n1 c1, .slice A2 n2 c2] t (0, 0))) => l05Code_any p k g len chk gl cp n1 c1 n2 c2 n3 c3 A1 A2 A3 xs ys er t w' hh ((h1.below hb).more hb.size) ((h2.below hb).more hb.size) ((h3.below hb).more hb.size) l1 l2 l3)
  unfold dmV
  rcases dmC_cases (codeB p k g len chk) (wordB p k len xs && wordB p k len ys) (risB 0 (len - 1) er) with ⟨h0, hc, hw, hi⟩ | ⟨h0, -⟩ | ⟨h0, -⟩ | ⟨h0, -⟩
  · rw [h0] at HW ⊢
    simp only [Bool.and_eq_true] at hw
    have hlx := wordB_len hw.1
    have hly := wordB_len hw.2
    have hl := codeB_len hc
    rw [h1.len] at hlx
    rw [h2.len] at hly
    have hnn : n1 = n2 := by omega
    subst hnn
    have hn255 : n1 ≤ 255 := by omega
    have HR1 := Lib.hid (fun (w' : World) (hb : Below w.heap.size w w') => h1.below hb)
    have HR2 := Lib.hid (fun (w' : World) (hb : Below w.heap.size w w') => h2.below hb)
    have HH := Lib.hid (fun (x : Int) (w' : World) (hb : Below w.heap.size w w') => l05Has_any x A3 n3 c3 er w' w.heap.size (h3.below hb) (by omega))
    clear hc h1 h2 h3 hw hi hlx hly hl h0
    go_enter Try.func12, Try.ntmps12
    go_wp2_with fail
    go_at_call 36
    refine (HW.out _ _ _ _ (by (repeat (first | (with_reducible assumption) | (with_reducible exact Below.refl _ _) | (with_reducible refine below_drewN' ?_ _) | (with_reducible refine Below.drew ?_) | ((with_reducible refine Below.alloc ?_ ?_ _); rotate_left; focus (first | (simp; done) | (simp; omega) | omega)) | ((with_reducible refine Below.setCell ?_ ?_ _); rotate_left; focus (first | (simp; done) | (simp; omega) | omega))))) (heap_alloc_at (by simp))).mono ?_
    rintro e1 w1 ⟨rfl, hb1⟩
    have hB1 : Below w.heap.size w w1 := below_then (by (repeat (first | (with_reducible assumption) | (with_reducible exact Below.refl _ _) | (with_reducible refine below_drewN' ?_ _) | (with_reducible refine Below.drew ?_) | ((with_reducible refine Below.alloc ?_ ?_ _); rotate_left; focus (first | (simp; done) | (simp; omega) | omega)) | ((with_reducible refine Below.setCell ?_ ?_ _); rotate_left; focus (first | (simp; done) | (simp; omega) | omega))))) (by simp; omega) hb1
    have HB1 := Lib.hid hB1
    clear hb1 hB1 HW
    go_wp2_with fail
    go_loopw [11, 12] (fun q i wr => ∃ m : Nat, m ≤ n1 ∧ i = .int .i64 m ∧ q = .int .i64 ((n3 : Int) + dmgN xs ys er m) ∧ Hid (Below w.heap.size w wr)) (fun _ i _ => n1 - (intOf i).toNat)
    case atStart => exact ⟨0, Nat.zero_le _, rfl, by simp [dmgN], HB1⟩
    case round =>
      rename World => wo
      obtain ⟨m, hm, rfl, rfl, hbl⟩ := hrel
      have hbw := hbl.out
      have hz := hbl.out.size
      by_cases hlt : m < n1
      · obtain ⟨b, o, rfl, hbb, hca⟩ := (HR1.out _ hbl.out).cells (by omega)
        obtain ⟨b', o', rfl, hbb', hcb⟩ := (HR2.out _ hbl.out).cells (by omega)
        have hka := hca m hlt
        have hkb := hcb m hlt
        have hq1 : b < wo.heap.size := by omega
        have hq2 : b' < wo.heap.size := by omega
        clear hca hcb
        have hle := dmgN_le xs ys er m
        have hst : dmgN xs ys er (m + 1) = dmgN xs ys er m + if nth xs m ≠ nth ys m ∧ hasB m er = false then 2 else 0 := rfl
        have HHm := Lib.hid (fun (w' : World) (hb : Below w.heap.size w w') => HH.out m w' hb)
        generalize dmgN xs ys er m = D at *
        by_cases he : nth xs m = nth ys m
        · have HE : Hid (dmgN xs ys er (m + 1) = D) := Lib.hid (by rw [hst, if_neg (by simp [he]), Nat.add_zero])
          rw [he] at hka
          have hne : (nth ys m != nth ys m) = false := by simp
          clear he hst
          go_wp2_with fail
          refine wp_region_qat [] 15 [] (by kernel_rfl) (by kernel_rfl) ?_
          intro hbc
          simp only [List.take_succ_cons, List.take_zero, List.drop_succ_cons, List.drop_zero]
          repeat (first
            | refine wpQ_pass rfl ?_
            | (refine wpQ_step rfl (fun K hK => ?_)
               go_simp
               first
                 | (refine hK _ ?_; clear hK K)
                 | (apply Exists.intro
                    refine ⟨fun z => ?_, ?_⟩
                    focus (first | (go_at_call 37; exact same_below4 (HHm.out _ (below_blurD hbw hz _))))
                    refine hK _ ?_
                    clear hK K)))
          refine wpQ_nil ⟨?_, ?_⟩
          · exact rfl
          intro  w2 hb2 hF2
          clear hbc
          obtain ⟨hc2, hf2⟩ := bcell hb2
          have hB2 : Below w.heap.size w w2 := below_then (by first | (go_grown; done) | (repeat (first | (with_reducible assumption) | (with_reducible exact Below.refl _ _) | (with_reducible refine below_drewN' ?_ _) | (with_reducible refine Below.drew ?_) | ((with_reducible refine Below.alloc ?_ ?_ _); rotate_left; focus (first | (simp; done) | (simp; omega) | omega)) | ((with_reducible refine Below.setCell ?_ ?_ _); rotate_left; focus (first | (simp; done) | (simp; omega) | omega))))) (by first | (simp; done) | (simp; omega) | omega) hb2
          clear hF2
          try simp only [Act.put, List.setIfInBounds_toArray, List.set_cons_succ, List.set_cons_zero]
          go_wp2_with fail
          go_roundw
          case rel => exact ⟨m + 1, by omega, by go_num, by rw [HE.out], Lib.hid hB2⟩
          case measure => simp [intOf]; omega
        · have hne : (nth xs m != nth ys m) = true := by simpa using he
          cases hh : hasB m er
          · rw [hh] at HHm
            have HE : Hid (dmgN xs ys er (m + 1) = D + 2) := Lib.hid (by rw [hst, if_pos ⟨he, hh⟩])
            clear he hst hh
            go_wp2_with fail
            refine wp_region_qat [] 15 [] (by kernel_rfl) (by kernel_rfl) ?_
            intro hbc
            simp only [List.take_succ_cons, List.take_zero, List.drop_succ_cons, List.drop_zero]
            repeat (first
              | refine wpQ_pass rfl ?_
              | (refine wpQ_step rfl (fun K hK => ?_)
                 go_simp
                 first
                   | (refine hK _ ?_; clear hK K)
                   | (apply Exists.intro
                      refine ⟨fun z => ?_, ?_⟩
                      focus (first | (go_at_call 37; exact same_below4 (HHm.out _ (below_blurD hbw hz _))))
                      refine hK _ ?_
                      clear hK K)))
            refine wpQ_nil ⟨?_, ?_⟩
            · exact rfl
            intro  w2 hb2 hF2
            clear hbc
            obtain ⟨hc2, hf2⟩ := bcell hb2
            have hB2 : Below w.heap.size w w2 := below_then (by first | (go_grown; done) | (repeat (first | (with_reducible assumption) | (with_reducible exact Below.refl _ _) | (with_reducible refine below_drewN' ?_ _) | (with_reducible refine Below.drew ?_) | ((with_reducible refine Below.alloc ?_ ?_ _); rotate_left; focus (first | (simp; done) | (simp; omega) | omega)) | ((with_reducible refine Below.setCell ?_ ?_ _); rotate_left; focus (first | (simp; done) | (simp; omega) | omega))))) (by first | (simp; done) | (simp; omega) | omega) hb2
            clear hF2
            try simp only [Act.put, List.setIfInBounds_toArray, List.set_cons_succ, List.set_cons_zero]
            go_wp2_with fail
            go_roundw
            case rel => exact ⟨m + 1, by omega, by go_num, by rw [HE.out]; go_num, Lib.hid hB2⟩
            case measure => simp [intOf]; omega
          · rw [hh] at HHm
            have HE : Hid (dmgN xs ys er (m + 1) = D) := Lib.hid (by rw [hst, if_neg (by simp [hh]), Nat.add_zero])
            clear he hst hh
            go_wp2_with fail
            refine wp_region_qat [] 15 [] (by kernel_rfl) (by kernel_rfl) ?_
            intro hbc
            simp only [List.take_succ_cons, List.take_zero, List.drop_succ_cons, List.drop_zero]
            repeat (first
              | refine wpQ_pass rfl ?_
              | (refine wpQ_step rfl (fun K hK => ?_)
                 go_simp
                 first
                   | (refine hK _ ?_; clear hK K)
                   | (apply Exists.intro
                      refine ⟨fun z => ?_, ?_⟩
                      focus (first | (go_at_call 37; exact same_below4 (HHm.out _ (below_blurD hbw hz _))))
                      refine hK _ ?_
                      clear hK K)))
            refine wpQ_nil ⟨?_, ?_⟩
            · exact rfl
            intro  w2 hb2 hF2
            clear hbc
            obtain ⟨hc2, hf2⟩ := bcell hb2
            have hB2 : Below w.heap.size w w2 := below_then (by first | (go_grown; done) | (repeat (first | (with_reducible assumption) | (with_reducible exact Below.refl _ _) | (with_reducible refine below_drewN' ?_ _) | (with_reducible refine Below.drew ?_) | ((with_reducible refine Below.alloc ?_ ?_ _); rotate_left; focus (first | (simp; done) | (simp; omega) | omega)) | ((with_reducible refine Below.setCell ?_ ?_ _); rotate_left; focus (first | (simp; done) | (simp; omega) | omega))))) (by first | (simp; done) | (simp; omega) | omega) hb2
            clear hF2
            try simp only [Act.put, List.setIfInBounds_toArray, List.set_cons_succ, List.set_cons_zero]
            go_wp2_with fail
            go_roundw
            case rel => exact ⟨m + 1, by omega, by go_num, by rw [HE.out], Lib.hid hB2⟩
            case measure => simp [intOf]; omega
      · obtain rfl : m = n1 := by omega
        go_wp2_with fail
        go_returns
        exact ⟨by simp, hbl.out⟩
  all_goals
    rw [h0] at HW ⊢
    clear h1 h2 h3 h0
    go_enter Try.func12, Try.ntmps12
    go_wp2_with fail
    go_at_call 36
    refine (HW.out _ _ _ _ (by (repeat (first | (with_reducible assumption) | (with_reducible exact Below.refl _ _) | (with_reducible refine below_drewN' ?_ _) | (with_reducible refine Below.drew ?_) | ((with_reducible refine Below.alloc ?_ ?_ _); rotate_left; focus (first | (simp; done) | (simp; omega) | omega)) | ((with_reducible refine Below.setCell ?_ ?_ _); rotate_left; focus (first | (simp; done) | (simp; omega) | omega))))) (heap_alloc_at (by simp))).mono ?_
    rintro e1 w1 ⟨rfl, hb1⟩
    have hB1 : Below w.heap.size w w1 := below_then (by (repeat (first | (with_reducible assumption) | (with_reducible exact Below.refl _ _) | (with_reducible refine below_drewN' ?_ _) | (with_reducible refine Below.drew ?_) | ((with_reducible refine Below.alloc ?_ ?_ _); rotate_left; focus (first | (simp; done) | (simp; omega) | omega)) | ((with_reducible refine Below.setCell ?_ ?_ _); rotate_left; focus (first | (simp; done) | (simp; omega) | omega))))) (by simp; omega) hb1
    go_wp2_with fail
    go_returns
    exact ⟨by simp, hB1⟩
end Go.Proofs.Ytffcjmnldmjocaa
