/-
  Contracts of chapter 15: TouchedElements, the program.
-/
import Derived.Test.YteghpageamehkaaC15M
import Derived.Test.YteghpageamehkaaRip
import Derived.Test.YteghpageamehkaaC15L
import Derived.Test.YteghpageamehkaaTk
namespace Go.Proofs.Yteghpageamehkaa
set_option linter.unusedSimpArgs false
open Go.RowKit

/-- The slice value v owns the bools bs. -/
def OwnB (w : World) (B : Nat) (v : Value) (bs : List Bool) : Prop := w.ownsRow B 4 1 v bs.length (bs.map Value.bool)
theorem nthBo_map (bs : List Bool) (k : Nat) (h : k < bs.length) : (bs.map Value.bool)[k]? = some (.bool (nthBo bs k)) := by
  unfold nthBo; simp [h]
theorem OwnB.keep {w w' : World} {B : Nat} {v : Value} {bs : List Bool} (h : OwnB w B v bs) (hb : Below w.heap.size w w') : OwnB w' B v bs := by
  refine ⟨h.1, ?_⟩
  rcases h.2 with h' | ⟨g, cap, cur, rfl, hB, hg, hr⟩
  · exact .inl h'
  · exact .inr ⟨g, cap, cur, rfl, hB, (hb.block g (lt_of_block hg)).trans hg, hr⟩
theorem OwnB.row {w : World} {B g n c : Nat} {bs : List Bool} (h : OwnB w B (.slice (some ⟨g, 0, none⟩) n c) bs) (hl : bs.length = n) :
    (∀ k, k < n → w.cell? ⟨g, k, none⟩ = some (.bool (nthBo bs k))) ∧ ∀ k, w.frozen? ⟨g, k, none⟩ = false := by
  subst hl
  have hf : w.ownsRow B 4 1 (.slice (some ⟨g, 0, none⟩) bs.length c) bs.length (bs.map Value.bool) := h
  exact ⟨fun k hk => by rw [hf.cellAt k (by omega)]; exact nthBo_map bs k hk, fun k => hf.frozenAt k⟩
theorem OwnB.setn {w : World} {B g n c k : Nat} {bs : List Bool} {u : Bool} (hl : bs.length = n) (h : OwnB w B (.slice (some ⟨g, 0, none⟩) n c) bs) :
    OwnB (w.setCell ⟨g, k, none⟩ (.bool u)) B (.slice (some ⟨g, 0, none⟩) n c) (bs.set k u) := by
  subst hl
  have h1 := (World.ownsRow.stored (show w.ownsRow B 4 1 (.slice (some ⟨g, 0, none⟩) bs.length c) bs.length (bs.map Value.bool) from h) k (.bool u)).1
  unfold OwnB
  rw [List.length_set, List.map_set]
  exact h1
theorem OwnB.made {w : World} {B n : Nat} {v : Value} (h : w.ownsRow B 4 1 v n (madeCells (Value.bool false).cells (n * 1)).toList) : OwnB w B v (List.replicate n false) := by
  rw [show (Value.bool false).cells = #[Value.bool false] from rfl, Nat.mul_one, toList_madeCells_one] at h
  unfold OwnB
  simpa using h
theorem OwnB.lt {w : World} {B g n c : Nat} {bs : List Bool} (h : OwnB w B (.slice (some ⟨g, 0, none⟩) n c) bs) : g < w.heap.size := (World.ownsRow.lt h g rfl).2
theorem info_bools : (Try.prog.info? 4).map (fun i => (i.zero, i.size, i.bytes)) = some (some (.bool false), 1, 1) := by kernel_rfl
set_option maxRecDepth 20000 in
set_option maxHeartbeats 4000000 in
theorem TouchedElements_any (n d : Int) (A : Option Addr) (L cp : Nat) (qs : List (Int × Int)) (w : World) (B : Nat) (hr : RIP w B A L qs) (hB : B ≤ w.heap.size) (hL : L ≤ 2000000) (hI : ∀ q ∈ qs, (-9223372036854775808 ≤ q.1 ∧ q.1 ≤ 9223372036854775807) ∧ (-9223372036854775808 ≤ q.2 ∧ q.2 ≤ 9223372036854775807)) :
    Calls Try.prog 29 #[.int .i64 n, .int .i64 d, .slice A L cp] w fun e w' =>
      ∃ u, e = .returned (.tuple #[u, .int .i64 (tuC n d qs)]) ∧ Own w' w.heap.size u (tuL n d qs) ∧ Below w.heap.size w w' := by
  have HR := Lib.hid (hr.more hB)
  have hlen := hr.len
  clear hr
  unfold tuC tuL
  rw [hlen]
  cases hs : sizeB n
  · go_enter Try.func29, Try.ntmps29
    go_wp2_with (go_at_call 52; refine (isMatrixSize_any _ _).mono ?_; rintro e w' ⟨rfl, rfl⟩)
    go_returns
    exact ⟨.slice none 0 0, by simp, by simpa using Own.nil, by (repeat (first | (with_reducible assumption) | (with_reducible exact Below.refl _ _) | (with_reducible refine below_drewN' ?_ _) | (with_reducible refine Below.drew ?_) | ((with_reducible refine Below.alloc ?_ ?_ _); rotate_left; focus (first | (simp; done) | (simp; omega) | omega)) | ((with_reducible refine Below.setCell ?_ ?_ _); rotate_left; focus (first | (simp; done) | (simp; omega) | omega))))⟩
  cases hd : inR d 1 8
  · go_enter Try.func29, Try.ntmps29
    go_wp2_with first | (go_at_call 52; refine (isMatrixSize_any _ _).mono ?_; rintro e w' ⟨rfl, rfl⟩) | (go_at_call 53; refine (inRange_any _ _ _ _).mono ?_; rintro e w' ⟨rfl, rfl⟩)
    go_returns
    exact ⟨.slice none 0 0, by simp, by simpa using Own.nil, by (repeat (first | (with_reducible assumption) | (with_reducible exact Below.refl _ _) | (with_reducible refine below_drewN' ?_ _) | (with_reducible refine Below.drew ?_) | ((with_reducible refine Below.alloc ?_ ?_ _); rotate_left; focus (first | (simp; done) | (simp; omega) | omega)) | ((with_reducible refine Below.setCell ?_ ?_ _); rotate_left; focus (first | (simp; done) | (simp; omega) | omega))))⟩
  obtain ⟨N, rfl, h1, h2, h3⟩ := sizeB_true hs
  have hdr := inR_true hd
  obtain ⟨K, rfl⟩ := Int.eq_ofNat_of_zero_le (show 0 ≤ d by omega)
  have hN : 17 ≤ N ∧ N ≤ 41 ∧ N % 4 = 1 := ⟨h1, h2, h3⟩
  simp only [cond_true, Int.toNat_natCast]
  by_cases hbig : L ≤ 40000
  · have hbi : (L : Int) ≤ 40000 := by omega
    rw [decide_eq_true hbig]
    simp only [cond_true]
    have HM := Lib.hid (fun w => placeIndicesS_any N w hN)
    have hMx := dataL_le h2
    obtain ⟨ps, hps⟩ : ∃ ps, dataL N = ps := ⟨_, rfl⟩
    rw [hps] at HM hMx ⊢
    obtain ⟨M, hMM⟩ : ∃ M, ps.length = M := ⟨_, rfl⟩
    have HLP := Lib.hid hMM
    rw [hMM] at HM hMx ⊢
    obtain ⟨q, hq⟩ : ∃ q, M / K = q := ⟨_, rfl⟩
    have hqi : (M : Int) / K = (q : Int) := by rw [← hq]; exact (Int.natCast_ediv M K).symm
    have hqM : q ≤ M := by rw [← hq]; exact Nat.div_le_self M K
    have hqw : IntKind.i64.wrap ((M : Int) / K) = (q : Int) := by rw [hqi]; exact i64_in (by omega)
    have hK0 : ¬ K = 0 := by omega
    rw [hq]
    obtain ⟨i0, hi⟩ := info_own' info_i64s
    have HI := Lib.hid (And.intro i0.bytes.le_refl hi)
    obtain ⟨iB, hib⟩ := info_own' info_bools
    have HIB := Lib.hid (And.intro iB.bytes.le_refl hib)
    have HQ := Lib.hid (fun (k : Nat) (hk : k < qs.length) => hI _ (nthP_mem hk))
    have HE := Lib.hid hlen
    clear hps hMM hq hN h3 hqi hi hib hI hlen
    go_enter Try.func29, Try.ntmps29
    go_wp2_with first | (go_at_call 52; refine (isMatrixSize_any _ _).mono ?_; rintro e w' ⟨rfl, rfl⟩) | (go_at_call 53; refine (inRange_any _ _ _ _).mono ?_; rintro e w' ⟨rfl, rfl⟩)
    (go_at_call 60; with_reducible refine (HM.out _).mono ?_; rintro e1 w1 ⟨bm, nm, rfl, hbm, hM1, hb1⟩)
    have HM1 := Lib.hid hM1
    have HB1 := Lib.hid hb1
    have hs1 := hb1.size
    have hbmw := hM1.lt
    obtain ⟨D, hD1, -, hD3⟩ := hM1
    clear hb1
    go_wp2_with first | (at_len; refine wpList_len_own _ rfl _ 77 rfl 32 2 Try.underlying77 _ bm nm D rfl hD1 ?_; rw [hD3]) | (at_make; refine wpList_make_full w1 rfl _ _ 87 rfl w1.heap.size 4 iB (.bool false) 1 Try.underlying87 HIB.out.2.1 HIB.out.2.2.1 HIB.out.2.2.2.1 .i64 .i64 q q q (by rfl) (by rfl) rfl rfl (by rw [HIB.out.2.2.2.2]; omega) (by unfold maxLen; omega) (Nat.le_refl _) ?_; intro w2 hown2 hgrow2)
    have HO2 : Hid (OwnB w2 w1.heap.size (.slice (some ⟨w1.heap.size, 0, none⟩) q q) (List.replicate q false)) := Lib.hid (OwnB.made hown2)
    have HB2 : Hid (Below w1.heap.size w1 w2) := Lib.hid ((Below.refl _ _).grown hgrow2 (Nat.le_refl _) (fun k hk => by cases hk))
    clear hown2 hgrow2 hD1 hD3
    go_wp2_with fail
    go_loopw [11, 12, 13, 37] (fun q1 q2 q3 i wr => ∃ k : Nat, k ≤ L ∧ i = .int .i64 k ∧ Hid (OwnB wr w1.heap.size (.slice (some ⟨w1.heap.size, 0, none⟩) q q) (tchB ps qs K q k)) ∧ Hid (Below w1.heap.size w1 wr))
      (fun _ _ _ i _ => L - (intOf i).toNat)
    case atStart => exact ⟨0, Nat.zero_le _, rfl, HO2, HB2⟩
    case round =>
      rename World => wo
      obtain ⟨k, hk, rfl, hown, hbel⟩ := hrel
      have hso := hbel.out.size
      have HBo := Lib.hid (HB1.out.trans (hbel.out.mono hs1))
      have hgl := hown.out.lt
      by_cases hkl : k < L
      · obtain ⟨b, o, rfl, hb, hc⟩ := (HR.out.below HBo.out).cells (by omega)
        obtain ⟨p0, p1⟩ := hc k hkl
        have hpi := HQ.out k (by rw [HE.out]; exact hkl)
        have htl := tchB_len ps qs K q k
        have hst : tchB ps qs K q (k + 1) = tch1 (ixL ps (nthP qs k).1 (nthP qs k).2 M) K q (tchB ps qs K q k) := by rw [← HLP.out]; rfl
        generalize tchB ps qs K q k = bs at hown htl hst
        obtain ⟨hcb, hfb⟩ := hown.out.row htl
        generalize nthP qs k = p at p0 p1 hpi hst
        obtain ⟨pr, pc'⟩ := p
        simp only at p0 p1 hpi hst
        have HMo := Lib.hid ((HM1.out.below hbel.out hbmw).below ((Below.refl wo.heap.size wo).alloc (Nat.le_refl _) (.cells #[.int .i64 pr, .int .i64 pc'] 32)) (by omega))
        have hlk := HMo.out.q.look (show I64 pr by unfold I64; omega) (show I64 pc' by unfold I64; omega)
        have hin := ixL_in (ps := ps) (r := pr) (c := pc') (n := M)
        generalize ixL ps pr pc' M = ox at hlk hst hin
        have HTL := Lib.hid htl
        have hbz : b < wo.heap.size := by omega
        have hmz : bm < wo.heap.size := by omega
        clear hc htl
        cases ox with
        | none =>
          simp only [Option.getD_none, Option.isSome_none] at hlk
          have HS := Lib.hid (show tchB ps qs K q (k + 1) = bs from hst)
          clear hst hcb hfb hin
          go_wp2_with fail
          go_roundw
          case rel => exact ⟨k + 1, by omega, by go_num, Lib.hid (by rw [HS.out]; exact hown.out.keep ((Below.refl _ _).alloc (Nat.le_refl _) _)), Lib.hid (hbel.out.alloc hso _)⟩
          case measure => simp [intOf]; omega
        | some x =>
          simp only [Option.getD_some, Option.isSome_some] at hlk hin
          obtain ⟨X, rfl⟩ := Int.eq_ofNat_of_zero_le hin.1
          obtain ⟨E, hE⟩ : ∃ E, X / K = E := ⟨_, rfl⟩
          have hEw : IntKind.i64.wrap ((X : Int) / K) = (E : Int) := by rw [← Int.natCast_ediv, hE]; exact i64_in (by have := Nat.div_le_self X K; omega)
          simp only [tch1, Int.toNat_natCast, hE] at hst
          clear hE
          by_cases hEq : E < q
          · rw [if_pos hEq] at hst
            have HS := Lib.hid hst
            have hck := hcb E hEq
            have hfk := hfb E
            clear hst hcb hfb
            go_wp2_with fail
            go_roundw
            case rel => exact ⟨k + 1, by omega, by go_num, Lib.hid (by rw [HS.out]; exact (OwnB.setn HTL.out hown.out).keep ((Below.refl _ _).alloc (Nat.le_refl _) _)), Lib.hid ((hbel.out.setCell (Nat.le_refl _) _).alloc (by simpa using hso) _)⟩
            case measure => simp [intOf]; omega
          · rw [if_neg hEq] at hst
            have HS := Lib.hid hst
            have hEq' : ¬ (E : Int) < q := by omega
            clear hst hcb hfb
            go_wp2_with fail
            go_roundw
            case rel => exact ⟨k + 1, by omega, by go_num, Lib.hid (by rw [HS.out]; exact hown.out.keep ((Below.refl _ _).alloc (Nat.le_refl _) _)), Lib.hid (hbel.out.alloc hso _)⟩
            case measure => simp [intOf]; omega
      · obtain rfl : k = L := by omega
        have htl := tchB_len ps qs K q k
        obtain ⟨bs, hbs⟩ : ∃ bs, tchB ps qs K q k = bs := ⟨_, rfl⟩
        rw [hbs] at hown htl
        have HBS := Lib.hid hbs
        have HTL := Lib.hid htl
        have HE0 : Hid (Own (wo.alloc (.cells #[] 2)) wo.heap.size (.slice (some ⟨wo.heap.size, 0, none⟩) 0 0) []) := Lib.hid (World.ownsRow_made (e := 2) (size := 1) (base := wo.heap.size) wo #[] 0 (Nat.le_refl _) (by unfold maxLen; omega) rfl)
        have HBE : Hid (Below wo.heap.size wo (wo.alloc (.cells #[] 2))) := Lib.hid (by go_grown)
        have hwo : w.heap.size ≤ wo.heap.size := by omega
        clear htl hbs
        go_wp2_with fail
        go_loopw [14, 15, 16, 65] (fun s q1 q2 i wr => ∃ m : Nat, m ≤ q ∧ i = .int .i64 m ∧ Hid (Own wr wo.heap.size s (idxL (nthBo bs) m)) ∧ Hid (Below wo.heap.size wo wr))
          (fun _ _ _ i _ => q - (intOf i).toNat)
        case atStart => exact ⟨0, Nat.zero_le _, rfl, HE0, HBE⟩
        case round =>
          rename World => wq
          obtain ⟨m, hm, rfl, hout, hbq⟩ := hrel
          have hsq := hbq.out.size
          by_cases hml : m < q
          · have hck := (hbq.out.cell (p := ⟨w1.heap.size, m, none⟩) hgl).trans ((hown.out.row HTL.out).1 m hml)
            have hst : idxL (nthBo bs) (m + 1) = bif nthBo bs m then idxL (nthBo bs) m ++ [(m : Int)] else idxL (nthBo bs) m := rfl
            have hll := idxL_len (nthBo bs) m
            cases hbv : nthBo bs m with
            | true =>
              rw [hbv] at hck hst
              have HS := Lib.hid hst
              have hbsz := Lib.hid hsq
              clear hst hbv
              go_wp2_with (at_builtin; refine wpList_append_own _ rfl _ _ 35 rfl (wo.heap.size) 2 i0 (.int .i64 0) 1 8 Try.underlying35 HI.out.2.1 HI.out.2.2.1 HI.out.2.2.2.1 HI.out.2.2.2.2 rfl (by decide) _ _ _ rfl (Own.alloc hout.out _) ⟨wq.heap.size, 0, none⟩ 1 1 [.int .i64 ((m : Int))] rfl rfl (cell_one_new _ _ _) (one_ok _) (own_max hout.out (by omega)) (own_bytes hout.out (by omega)) (own_base hbsz.out) ?_; intro va wa howna hgrowa _; have hoa := Lib.hid (Own.snoc howna); have hga := Lib.hid hgrowa; clear howna hgrowa)
              go_roundw
              case rel => exact ⟨m + 1, by omega, by go_num, Lib.hid (by rw [HS.out]; exact hoa.out), Lib.hid (Own.below_grown hout.out hbq.out hsq hga.out)⟩
              case measure => simp [intOf]; omega
            | false =>
              rw [hbv] at hck hst
              have HS := Lib.hid hst
              clear hst hbv
              go_wp2_with fail
              go_roundw
              case rel => exact ⟨m + 1, by omega, by go_num, Lib.hid (by rw [HS.out]; exact hout.out), hbq⟩
              case measure => simp [intOf]; omega
          · obtain rfl : m = q := by omega
            go_wp2_with fail
            go_returns
            rw [HBS.out]
            exact ⟨_, by simp, hout.out.more hwo, HBo.out.trans (hbq.out.mono hwo)⟩
  · have hbi : ¬ (L : Int) ≤ 40000 := by omega
    rw [decide_eq_false hbig]
    go_enter Try.func29, Try.ntmps29
    go_wp2_with first | (go_at_call 52; refine (isMatrixSize_any _ _).mono ?_; rintro e w' ⟨rfl, rfl⟩) | (go_at_call 53; refine (inRange_any _ _ _ _).mono ?_; rintro e w' ⟨rfl, rfl⟩)
    go_returns
    exact ⟨.slice none 0 0, by simp, by simpa using Own.nil, by (repeat (first | (with_reducible assumption) | (with_reducible exact Below.refl _ _) | (with_reducible refine below_drewN' ?_ _) | (with_reducible refine Below.drew ?_) | ((with_reducible refine Below.alloc ?_ ?_ _); rotate_left; focus (first | (simp; done) | (simp; omega) | omega)) | ((with_reducible refine Below.setCell ?_ ?_ _); rotate_left; focus (first | (simp; done) | (simp; omega) | omega))))⟩
end Go.Proofs.Yteghpageamehkaa
