/-
  Contract of chapter 7: the reference's words of a stream.
-/
import Derived.Test.YtbgcbjfimjfbpaaC07K
import Derived.Deep.AppendLies
import Derived.Deep.RegionLaw
namespace Go.Proofs.Ytbgcbjfimjfbpaa
set_option linter.unusedSimpArgs false
open Go.RowKit Go.Deep

/-- One word more is appended. -/
theorem Wds.app {w wa : World} {B g c K ga ca L : Nat} {gs : Nat → Nat} {wv : Nat → List Int} {o2 : Obj} (h : WdG w B g K c K gs wv) (hB : B ≤ w.heap.size)
    (hown : wa.ownsRow B 24 1 (.slice (some ⟨ga, 0, none⟩) (K + 1) ca) (K + 1) (wVs gs wv K K ++ [slW w.heap.size L]))
    (hg : ((w.alloc (.cells (Array.replicate L (.int .i64 0)) 2)).alloc o2).grownBy wa (some g)) (hL : (wv K).length = L) (hz : wv K = List.replicate L 0) : Wds wa B ga (K + 1) ca (K + 1) wv := by
  have hrow := (World.ownsRow.lt h.row g rfl)
  refine ⟨Nat.le_refl _, fun i => if i = K then w.heap.size else gs i, ?_, fun i hi => ?_, fun i j hij hj => ?_⟩
  · have e : wVs gs wv K K ++ [slW w.heap.size L] = wVs (fun i => if i = K then w.heap.size else gs i) wv (K + 1) (K + 1) := by
      rw [← wVs_snoc, hL]
      simp only [if_true]
      rw [wVs_congr (gs' := fun i => if i = K then w.heap.size else gs i) (wv' := wv) (fun i hi => by rw [if_neg (by omega)]) (fun i hi => rfl)]
    rw [← e]; exact hown
  · by_cases e : i = K
    · subst e
      simp only [if_true]
      refine ⟨hB, ?_⟩
      unfold RowAt
      rw [hz]
      refine (hg.block _ (by simp; omega) (by simp; omega)).trans ((Below.heap_alloc _ _ _ (by simp)).trans ((heap_alloc_new _ _).trans ?_))
      simp
    · simp only [if_neg e]
      exact ⟨(h.rows i (by omega)).1, grown_ne h.row hg (h.rows i (by omega)).2 words_ne⟩
  · by_cases e : j = K
    · subst e
      simp only [if_true, if_neg (show i ≠ j by omega)]
      have := (h.rows i (by omega)).2.lt
      omega
    · simp only [if_neg e, if_neg (show i ≠ K by omega)]
      exact h.ap i j hij (by omega)
theorem Wds.empty {w : World} {B : Nat} {wv : Nat → List Int} (hB : B ≤ w.heap.size) : Wds (w.alloc (.cells #[] 24)) B w.heap.size 0 0 0 wv := by
  refine ⟨Nat.le_refl _, fun _ => 0, ?_, fun i hi => absurd hi (by omega), fun i j _ hj => absurd hj (by omega)⟩
  have := World.ownsRow_made (e := 24) (size := 1) (base := B) w #[] 0 hB (by unfold maxLen; omega) rfl
  simpa [wVs] using this
/-- The zeros from which the words are made. -/
def zerW (D C H : Nat) : Nat → List Int := fun b => List.replicate (shN D C b + H) 0
/-- What the making of the words carries. -/
structure WqS (w wr : World) (p k g : Int) (D H C K : Nat) (v : Value) : Prop where
  lay : LayAt wr w.heap.size p k g D H C
  ex : ∃ g0 c, v = .slice (some ⟨g0, 0, none⟩) K c ∧ Wds wr w.heap.size g0 K c K (zerW D C H)
  bel : Below w.heap.size w wr
theorem WqS.keep {w wr w' : World} {p k g : Int} {D H C K : Nat} {v : Value} (h : WqS w wr p k g D H C K v) (hb : Below wr.heap.size wr w') : WqS w w' p k g D H C K v := by
  obtain ⟨h1, ⟨g0, c, e, h2⟩, h3⟩ := h
  exact ⟨h1.below hb, ⟨g0, c, e, h2.keep hb⟩, h3.trans (hb.mono h3.size)⟩

/-- What the filling of the words carries. -/
structure RqS (w wr : World) (B' g0 c C : Nat) (gs : Nat → Nat) (wv : Nat → List Int) (v : Value) (L : List (Nat × Nat)) : Prop where
  wd : WdG wr w.heap.size g0 C c C gs wv
  prs : Prs wr B' v L
  bel : Below w.heap.size w wr
theorem RqS.keep {w wr w' : World} {B' g0 c C : Nat} {gs : Nat → Nat} {wv : Nat → List Int} {v : Value} {L : List (Nat × Nat)} (h : RqS w wr B' g0 c C gs wv v L) (hb : Below wr.heap.size wr w') : RqS w w' B' g0 c C gs wv v L :=
  ⟨h.wd.keep hb, h.prs.keep hb, h.bel.trans (hb.mono h.bel.size)⟩
theorem RqS.put {w wr : World} {B' g0 c C b e : Nat} {u : Int} {gs : Nat → Nat} {wv : Nat → List Int} {v : Value} {L : List (Nat × Nat)} (h : RqS w wr B' g0 c C gs wv v L) (hb : b < C) (hM : gs b < B') :
    RqS w (wr.setCell ⟨gs b, e, none⟩ (.int .i64 u)) B' g0 c C gs (updW wv b ((wv b).set e u)) v L :=
  ⟨(h.wd.look hb).2.2.2 e u, h.prs.setLt hM _, h.bel.setCell (p := ⟨gs b, e, none⟩) (h.wd.rows b hb).1 _⟩
theorem RqS.to {w wr : World} {B' g0 c C : Nat} {gs : Nat → Nat} {wv wv' : Nat → List Int} {v : Value} {L : List (Nat × Nat)} (h : RqS w wr B' g0 c C gs wv v L) (e : wv = wv') : RqS w wr B' g0 c C gs wv' v L := e ▸ h

set_option maxRecDepth 100000 in
set_option maxHeartbeats 8000000 in
theorem l07Words_any (p k g : Int) (D C H : Nat) (hC : 1 ≤ C) (hC2 : C ≤ 16) (hD : D ≤ 1500) (hH : H ≤ 64) (A : Option Addr) (n cp : Nat) (xs : List Int) (w : World) (hr : RI w w.heap.size A n xs) (hn' : n = D + C * H) :
    Calls Try.prog 83 #[.agg #[.int .i64 p, .int .i64 k, .int .i64 g, .int .i64 D, .int .i64 H, .int .i64 C], .slice A n cp] w fun e w' =>
      ∃ g0 c, e = .returned (.slice (some ⟨g0, 0, none⟩) C c) ∧ Wds w' w.heap.size g0 C c C (wdL D C H xs) ∧ Below w.heap.size w w' := by
  have hn := Lib.hid hn'
  clear hn'
  obtain ⟨j0, hj⟩ := info_own' info_pairs
  have HJ := Lib.hid (And.intro j0.bytes.le_refl hj)
  clear hj
  obtain ⟨i0, hi⟩ := info_own' info_i64s
  have HMI := Lib.hid (fun n w (hn : n ≤ 1000000) => make_any (n := n) 24 2 i0 (.int .i64 0) Try.underlying24 hi.1 hi.2.1 hi.2.2.1 (by rw [hi.2.2.2]; omega) hn rfl w)
  clear hi
  have HSH := Lib.hid (fun b w (hb : b ≤ 16) => l07Size_any p k g D H C b w hC hC2 hD hb)
  have HOA := Lib.hid (fun w => l07Order_any p k g D C H hC hC2 hD hH w)
  have hshl := fun b => (show shN D C b ≤ 1501 from by have := Nat.div_le_self D C; unfold shN; split <;> omega)
  have HLN := Lib.hid (ordL_len (D := D) H hC)
  have HR := Lib.hid hr
  have hCH := Nat.mul_le_mul hC2 hH
  clear hr
  go_enter Try.func83, Try.ntmps83
  go_wp2_with fail
  have HS0 : Hid (WqS w ((w.alloc (.cells (layC p k g D H C) 30)).alloc (.cells #[] 24)) p k g D H C 0 (.slice (some ⟨w.heap.size + 1, 0, none⟩) 0 0)) := Lib.hid (by
    refine ⟨(Below.heap_alloc _ _ _ (by simp)).trans (heap_alloc_new _ _), ⟨_, _, rfl, ?_⟩, by go_grown⟩
    have := Wds.empty (w := w.alloc (.cells (layC p k g D H C) 30)) (B := w.heap.size) (wv := zerW D C H) (by simp)
    simpa using this)
  go_loopw [5, 6] (fun q i wr => ∃ K : Nat, K ≤ C ∧ i = .int .i64 K ∧ Hid (WqS w wr p k g D H C K q)) (fun _ i _ => C - (intOf i).toNat)
  case atStart => exact ⟨0, Nat.zero_le _, rfl, HS0⟩
  case round =>
    clear HS0
    obtain ⟨K, hK, rfl, HS⟩ := hrel
    obtain ⟨c0, c1, c2, c3, c4, c5⟩ := HS.out.lay.cells
    by_cases hlt : K < C
    · obtain ⟨s, hs⟩ : ∃ s, shN D C K = s := ⟨_, rfl⟩
      have hs1 : s ≤ 1501 := by rw [← hs]; exact hshl K
      have HSK := Lib.hid (fun w => HSH.out K w (by omega))
      rw [hs] at HSK
      have hmi : ∀ w : World, (Instr.makeSlice 24 (.int .i64 ((s : Int) + (H : Int))) (.int .i64 ((s : Int) + (H : Int)))).run Try.prog w = .ok (.slice (some ⟨w.heap.size, 0, none⟩) (s + H) (s + H)) (w.alloc (.cells (Array.replicate (s + H) (.int .i64 0)) 2)) := fun w => by
        have h := HMI.out (s + H) w (by omega)
        rw [List.toArray_replicate, Int.natCast_add] at h
        exact h
      have hwr : IntKind.i64.wrap ((s : Int) + (H : Int)) = (s : Int) + (H : Int) := wr64 (by omega)
      obtain ⟨gw, cw, rfl, hwds⟩ := HS.out.ex
      have HWD := Lib.hid hwds
      have HZ : Hid (zerW D C H K = List.replicate (s + H) 0) := Lib.hid (by unfold zerW; rw [hs])
      have hz0 := lt_of_block HS.out.lay
      clear hwds
      go_wp2_with fail
      go_region_law (first
        | (refine step_append_lies _ (by rfl) _ _ 63 (by rfl) w.heap.size 24 j0 nilW 1 24 Try.underlying63 HJ.out.2.1 HJ.out.2.2.1 HJ.out.2.2.2.1 HJ.out.2.2.2.2 rfl (by decide) (.slice (some ⟨gw, 0, none⟩) K cw) K _ (by rfl) (World.ownsRow.alloc (World.ownsRow.alloc HG3.out.row _) _) ⟨w3.heap.size + 1, 0, none⟩ 1 1 [slW w3.heap.size (s + H)] (by rfl) (by rfl) (cells_news_at _ _ _ (by simp)) (fun u hu => by simp at hu; subst hu; rfl) (by decide) (by unfold maxLen; omega) (by omega) (by have := HL3.out.1; simp; omega) (w3.heap.size + 1 + 1) (by simp) ?_; intro gg cap wa hoa0 hga hat hlt'; have HFIN : Hid (WqS w wa p k g D H C (K + 1) (.slice (some ⟨gg, 0, none⟩) (K + 1) cap)) := Lib.hid ⟨grown_ne HG3.out.row hga HL3.out.2.1 (by decide), ⟨_, _, rfl, Wds.app HG3.out HL3.out.1 hoa0 hga (by rw [HZ.out, List.length_replicate]) HZ.out⟩, ((HL3.out.2.2.alloc HL3.out.1 _).alloc (by have := HL3.out.1; simp; omega) _).grown hga (by have := HL3.out.1; simp; omega) (fun k hk => (World.ownsRow.lt HG3.out.row k hk).1)⟩; clear hoa0 hga hat)
        | (go_simp; (with_reducible refine (HSK.out _).mono ?_; rintro e3 w3 ⟨rfl, hb3⟩; have hb3' : Below wr.heap.size wr w3 := (by first | exact hb3 | exact (Below.drew (Below.refl _ wr)).trans (by have h := hb3; rw [heap_drew1] at h; exact h)); obtain ⟨gs, hg3⟩ := (HWD.out.keep hb3').toG; have HG3 := Lib.hid hg3; have HL3 := Lib.hid (And.intro (HS.out.keep hb3').bel.size (And.intro (HS.out.keep hb3').lay (HS.out.keep hb3').bel)); obtain ⟨x0, x1, x2, x3, x4, x5⟩ := (HS.out.keep hb3').lay.cells; clear hb3 hb3' hg3)))
      all_goals
        go_wp2_with fail
        go_roundw
        case rel => exact ⟨K + 1, by omega, by go_num, HFIN⟩
        case measure => simp [intOf]; omega
    · obtain rfl : C = K := by omega
      obtain ⟨gw, cw, rfl, hwds⟩ := HS.out.ex
      obtain ⟨gs, hg⟩ := hwds.toG
      have HGM := Lib.hid (fun b (hb : b < C) => (hg.rows b hb).2.lt)
      have HG := Lib.hid hg
      have HBL := Lib.hid HS.out.bel
      have HON := Lib.hid (fun k => ordN_in (D := D) (C := C) (H := H) (k := k) hC)
      have HTK := Lib.hid (fun k => ordL_take (D := D) (C := C) (H := H) (k := k) hC)
      obtain ⟨N, hN⟩ : ∃ N, D + C * H = N := ⟨_, rfl⟩
      rw [hN] at HON HTK HLN hn
      have hN2 : N ≤ 3000 := by omega
      clear hwds hg HS hN hK hlt
      go_wp2_with (go_at_call 79; refine (HOA.out _).mono ?_; rintro e4 w4 ⟨v, rfl, hprs, hb4⟩; have HRQ := Lib.hid (show RqS w w4 wr.heap.size gw cw C gs (wdF (fun b => shN D C b + H) xs []).2 v (ordL D C H) from ⟨HG.out.keep hb4, hprs, HBL.out.trans (hb4.mono HBL.out.size)⟩); obtain ⟨VA, vc, rfl⟩ := hprs.shape; rw [HLN.out] at HRQ ⊢; clear hprs hb4)
      clear c0 c1 c2 c3 c4 c5
      generalize wr.heap.size = B4 at *
      go_loopw [8] (fun i wr => ∃ i' : Nat, i' ≤ N ∧ i = .int .i64 i' ∧ Hid (RqS w wr B4 gw cw C gs (wdF (fun b => shN D C b + H) xs ((ordL D C H).take i')).2 (.slice VA N vc) (ordL D C H))) (fun i _ => N - (intOf i).toNat)
      case atStart => exact ⟨0, Nat.zero_le _, rfl, HRQ⟩
      case round =>
        clear HRQ
        obtain ⟨i, hi, rfl, HS⟩ := hrel
        by_cases hlt : i < N
        · obtain ⟨go, gi, rfl, hgo, hgi, hco, hp0, hp1⟩ := HS.out.prs.look (i := i) (by rw [HLN.out]; exact hlt)
          replace hp0 : wr.cell? ⟨gi, 0, none⟩ = some (.int .i64 ((ordN D C H i).1 : Nat)) := hp0
          replace hp1 : wr.cell? ⟨gi, 1, none⟩ = some (.int .i64 ((ordN D C H i).2 : Nat)) := hp1
          obtain ⟨hbC, heL⟩ := HON.out i hlt
          have HNX : Hid (updW (wdF (fun b => shN D C b + H) xs ((ordL D C H).take i)).2 (ordN D C H i).1 (((wdF (fun b => shN D C b + H) xs ((ordL D C H).take i)).2 (ordN D C H i).1).set (ordN D C H i).2 (nth xs i)) = (wdF (fun b => shN D C b + H) xs ((ordL D C H).take (i + 1))).2) := Lib.hid (by
            rw [HTK.out i hlt, wdF_snoc, wdF_fst, List.length_take, HLN.out, Nat.min_eq_left (show i ≤ N by omega)])
          have hwl := wdF_len (fun b => shN D C b + H) xs ((ordL D C H).take i) (ordN D C H i).1
          obtain ⟨hcb, hce, hfe, -⟩ := HS.out.wd.look hbC
          have hM := HGM.out _ hbC
          rw [hwl] at hcb hce
          obtain ⟨bb, hbb⟩ : ∃ bb, (ordN D C H i).1 = bb := ⟨_, rfl⟩
          obtain ⟨ee, hee⟩ : ∃ ee, (ordN D C H i).2 = ee := ⟨_, rfl⟩
          rw [hbb] at hp0 hbC HNX hcb hce hfe hM heL
          rw [hee] at hp1 HNX heL
          have hcx := hce ee heL
          have hfx := hfe ee
          obtain ⟨q, hq⟩ : ∃ q, shN D C bb + H = q := ⟨_, rfl⟩
          rw [hq] at hcb heL
          obtain ⟨bs, os, rfl, hbs, hxs⟩ := (HR.out.below HS.out.bel).cells (by have := hn.out; omega)
          have hxi := hxs i (by have := hn.out; omega)
          have hin : i < n := by have := hn.out; omega
          have hB := HS.out.bel
          have hbsW : bs < wr.heap.size := by have := hB.size; omega
          have hgwl := (World.ownsRow.lt HS.out.wd.row gw rfl).2
          have hgbl := (HS.out.wd.rows bb hbC).2.lt
          have hgbw := (HS.out.wd.rows bb hbC).1
          have hzw : w.heap.size < wr.heap.size := by omega
          obtain ⟨xi, hxe⟩ : ∃ xi, nth xs i = xi := ⟨_, rfl⟩
          rw [hxe] at hxi HNX
          generalize nth ((wdF (fun b => shN D C b + H) xs ((ordL D C H).take i)).2 bb) ee = yj at hcx
          clear hwl hce hfe hxs hbb hee hq hxe
          go_wp2_with fail
          refine wp_region_qat [] 20 [] (by kernel_rfl) (by kernel_rfl) ?_
          intro hbc
          simp only [List.take_succ_cons, List.take_zero, List.drop_succ_cons, List.drop_zero]
          repeat (first
            | refine wpQ_pass rfl ?_
            | (refine wpQ_step rfl (fun K hK => ?_)
               go_simp
               first
                 | (refine hK _ ?_; clear hK K)))
          refine wpQ_nil ⟨?_, ?_⟩
          · exact rfl
          intro  w5 hb5 hF5
          clear hbc
          obtain ⟨hc5, hf5⟩ := bcell hb5
          have hB5 : Below w.heap.size w w5 := below_then (by first | (go_grown; done) | (repeat (first | (with_reducible assumption) | (with_reducible exact Below.refl _ _) | (with_reducible refine below_drewN' ?_ _) | (with_reducible refine Below.drew ?_) | ((with_reducible refine Below.alloc ?_ ?_ _); rotate_left; focus (first | (simp; done) | (simp; omega) | omega)) | ((with_reducible refine Below.setCell ?_ ?_ _); rotate_left; focus (first | (simp; done) | (simp; omega) | omega))))) (by first | (simp; done) | (simp; omega) | omega) hb5
          clear hF5
          try simp only [Act.put, List.setIfInBounds_toArray, List.set_cons_succ, List.set_cons_zero]
          have hcx5 := (hc5 _ ee hgbl).trans hcx
          have hfx5 := (hf5 _ ee hgbl).trans hfx
          clear hc5 hf5 hcx hfx hp0 hp1 hco hcb hxi
          go_wp2_with fail
          go_roundw
          case rel => exact ⟨i + 1, by omega, by go_num, Lib.hid (((HS.out.keep hb5).put hbC hM).to HNX.out)⟩
          case measure => simp [intOf]; omega
        · have HF : Hid (WdG wr w.heap.size gw C cw C gs (wdL D C H xs)) := Lib.hid (HS.out.wd.to (by unfold wdL; rw [List.take_of_length_le (by rw [HLN.out]; omega)]))
          go_wp2_with fail
          go_ret
          exact ⟨_, _, rfl, HF.out.of, HS.out.bel⟩
end Go.Proofs.Ytbgcbjfimjfbpaa
