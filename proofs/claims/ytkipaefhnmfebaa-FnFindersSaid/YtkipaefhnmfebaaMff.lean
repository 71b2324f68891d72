/-
  Contract of chapter 23: the reference's finders of a grid.
-/
import Derived.Test.YtkipaefhnmfebaaMfe
import Derived.Test.YtkipaefhnmfebaaMfc
import Derived.Test.YtkipaefhnmfebaaFrame
import Derived.Test.YtkipaefhnmfebaaRegion
import Derived.Test.YtkipaefhnmfebaaMfd
import Derived.Deep.RegionHeld3
import Derived.Deep.RegionWith
import Derived.Deep.DeepCutAuto
import Derived.Test.YtkipaefhnmfebaaGrd
namespace Go.Proofs.Ytkipaefhnmfebaa
set_option linter.unusedSimpArgs false
open Go.RowKit Go.Deep

theorem fnS_grow (L : List FdT) (k : Nat) : (fnS (L.take k)).length ≤ (fnS L).length := by
  have h := (fn_grow (out := fnS (L.take k)) (L := L.drop k)).1
  have e : (L.drop k).foldl fnX (fnS (L.take k)) = fnS L := by
    unfold fnS; rw [← List.foldl_append, List.take_append_drop]
  rw [e] at h; exact h
theorem fnS_step {L : List FdT} {k : Nat} (h : k < L.length) : fnS (L.take (k + 1)) = fnX (fnS (L.take k)) (gF L k) := by rw [take_gF h, fnS_snoc]
theorem any_no {out : List FdT} {x : FdT} {j : Nat} (h : ∀ i, i < j → nrF (gF out i) x = false) (hj : out.length ≤ j) : out.any (fun y => nrF y x) = false := by
  rw [List.any_eq_false]
  intro y hy
  obtain ⟨i, hi, rfl⟩ := List.getElem_of_mem hy
  have := h i (by omega)
  rw [gF_eq hi] at this
  rw [this]; simp
theorem any_yes {out : List FdT} {x : FdT} {j : Nat} (hj : j < out.length) (h : nrF (gF out j) x = true) : out.any (fun y => nrF y x) = true :=
  List.any_eq_true.2 ⟨gF out j, gF_mem hj, h⟩
theorem fd_look {W : World} {B m c k : Nat} {A : Option Addr} {L : List FdT} (h : OwnF W B (.slice A m c) L) (hm : L.length = m) (hk : k < m) : ∃ g, A = some ⟨g, 0, none⟩ ∧ g < W.heap.size ∧
    W.cell? ⟨g, k * 4, none⟩ = some (.int .i64 ((gF L k).r : Nat)) ∧ W.cell? ⟨g, k * 4 + 1, none⟩ = some (.int .i64 ((gF L k).c : Nat)) ∧ W.cell? ⟨g, k * 4 + 2, none⟩ = some (.int .i64 ((gF L k).h : Nat)) ∧ W.cell? ⟨g, k * 4 + 3, none⟩ = some (.int .i64 ((gF L k).w : Nat)) := by
  obtain ⟨g, c', e, -, hg, hc⟩ := h.look (by omega)
  rw [hm] at e
  simp only [Value.slice.injEq] at e
  exact ⟨g, e.1, hg, hc k (by omega)⟩
theorem app_le {out : List FdT} {x : FdT} {j : Nat} (h : out.length = j) (h1 : j ≤ 60) (h2 : ¬ j = 60) : (out ++ [x]).length ≤ 60 := by
  rw [List.length_append, List.length_singleton]; omega
theorem app_gt {out : List FdT} {x : FdT} {N : Nat} (h : out.length = 60) (h1 : (out ++ [x]).length ≤ N) : 60 < N := by
  rw [List.length_append, List.length_singleton] at h1; omega
/-- The finders so far, and the candidates: they lie apart. -/
structure FiP (w wr : World) (q vL : Value) (out L : List FdT) : Prop where
  own : OwnF wr w.heap.size q out
  cnd : OwnF wr w.heap.size vL L
  ne : vL.ownBlock = none ∨ vL.ownBlock ≠ q.ownBlock
  bel : Below w.heap.size w wr
theorem FiP.keep {w wr w' : World} {q vL : Value} {out L : List FdT} (h : FiP w wr q vL out L) (hb : Below wr.heap.size wr w') : FiP w w' q vL out L :=
  ⟨h.own.keep hb, h.cnd.keep hb, h.ne, h.bel.trans (hb.mono h.bel.size)⟩
theorem FiP.to {w wr : World} {q vL : Value} {out out' L : List FdT} (h : FiP w wr q vL out L) (e : out = out') : FiP w wr q vL out' L := e ▸ h
theorem FiP.app {w wr wa : World} {q q' vL : Value} {out L : List FdT} {x : FdT} {o : Obj} (h : FiP w wr q vL out L) (ho : OwnF wa w.heap.size q' (out ++ [x])) (hg : (wr.alloc o).grownBy wa q.ownBlock) (hat : q'.ownBlock = q.ownBlock ∨ q'.ownBlock = some (wr.alloc o).heap.size) : FiP w wa q' vL (out ++ [x]) L := by
  refine ⟨ho, World.ownsRow.kept (World.ownsRow.alloc h.cnd o) hg h.ne, ?_, (h.bel.alloc h.bel.size _).grown hg (by have := h.bel.size; rw [World.size_alloc]; omega) fun j hj => (h.own.lt j hj).1⟩
  rcases h.ne with h1 | h1
  · exact .inl h1
  · rcases hat with e | e
    · exact .inr (by rw [e]; exact h1)
    · refine .inr fun e2 => ?_
      rw [e] at e2
      have := (h.cnd.lt _ e2).2
      rw [World.size_alloc] at this
      omega
set_option maxRecDepth 100000 in
set_option maxHeartbeats 8000000 in
theorem finders_any (R C : Nat) (A : Option Addr) (n cp : Nat) (G : List Int) (w : World) (hr : RI w w.heap.size A n G) (hn : n = R * C) (hcp : n ≤ cp ∧ cp ≤ 9223372036854775807) (hnb : n ≤ 40000) (hR : R ≤ 40000) (hC : 1 ≤ C ∧ C ≤ 40000) :
    Calls Try.prog 46 #[.agg #[.int .i64 R, .int .i64 C, .slice A n cp]] w fun e w' =>
      (((fnS (cdN G R C R)).length ≤ 60 ∧ ∃ v, e = .returned (.tuple #[v, .bool true]) ∧ OwnF w' w.heap.size v (fnS (cdN G R C R))) ∨ (60 < (fnS (cdN G R C R)).length ∧ e = .returned (.tuple #[.slice none 0 0, .bool false]))) ∧ Below w.heap.size w w' := by
  obtain ⟨i0, hi⟩ := info_own' info_fds
  have HI := Lib.hid (And.intro i0.bytes.le_refl hi)
  clear hi
  have HOK := Lib.hid (fun x (hx : x ∈ cdN G R C R) => (cdN_ok (by rw [hr.len, hn]) R (Nat.le_refl _) x hx).b hR hC.2)
  have HLN := Lib.hid (cdN_len (show G.length = R * C by rw [hr.len, hn]) R (Nat.le_refl _))
  have HCA := Lib.hid (candidates_any R C A n cp G (w.alloc (.cells #[.int .i64 R, .int .i64 C, .slice A n cp] 41) |>.alloc (.cells #[] 47)) ((hr.below (by go_grown)).more (by simp; omega)) hn hcp hnb hR hC)
  have HNR := Lib.hid hn
  clear hr hn
  generalize cdN G R C R = L at *
  obtain ⟨m, hm⟩ : ∃ m, L.length = m := ⟨_, rfl⟩
  have HM := Lib.hid hm
  have HST : Hid (∀ w1 v, OwnF w1 (w.heap.size + 1 + 1) v L → Below (w.heap.size + 1 + 1) ((w.alloc (.cells #[.int .i64 R, .int .i64 C, .slice A n cp] 41)).alloc (.cells #[] 47)) w1 → FiP w w1 (.slice (some ⟨w.heap.size + 1, 0, none⟩) 0 0) v (fnS (L.take 0)) L) := Lib.hid (fun w1 v h1 h2 => by
    have h0 := OwnF.empty (w := w.alloc (.cells #[.int .i64 R, .int .i64 C, .slice A n cp] 41)) (B := w.heap.size) (by simp)
    simp only [World.size_alloc] at h0
    refine ⟨h0.keep (by simpa using h2), h1.more (by omega), .inr fun e => ?_, (by go_grown : Below w.heap.size w _).trans (h2.mono (by omega))⟩
    have := (h1.lt (w.heap.size + 1) e).1
    omega)
  rw [show ((w.alloc (.cells #[.int .i64 R, .int .i64 C, .slice A n cp] 41)).alloc (.cells #[] 47)).heap.size = w.heap.size + 1 + 1 by simp] at HCA
  go_enter Try.func46, Try.ntmps46
  go_wp2_with fail
  go_step3
  go_wp2_with fail
  go_step3
  go_wp2_with (go_at_call 58; with_reducible refine HCA.out.mono ?_; rintro e1 w1 ⟨v, rfl, hof, hb1⟩; have HP0 := Lib.hid (HST.out _ _ hof hb1); obtain ⟨AL, cL, rfl⟩ := hof.shape; rw [hm] at HP0 ⊢; clear hof hb1)
  clear HCA HST
  go_loopw [4, 13] (fun q i wr => ∃ k : Nat, k ≤ m ∧ i = .int .i64 k ∧ Hid (FiP w wr q (.slice AL m cL) (fnS (L.take k)) L) ∧ (fnS (L.take k)).length ≤ 60) (fun _ i _ => m - (intOf i).toNat)
  case atStart => exact ⟨0, Nat.zero_le _, rfl, HP0, by simp [fnS]⟩
  case round =>
    clear HP0
    obtain ⟨k, hk, rfl, HS, hl60⟩ := hrel
    have hzw := HS.out.bel.size
    by_cases hlt : k < m
    · have hkI : (k : Int) < (m : Int) := by omega
      obtain ⟨g, rfl, hg, x0, x1, x2, x3⟩ := fd_look HS.out.cnd HM.out hlt
      have HFX := Lib.hid (fnS_step (L := L) (k := k) (by rw [HM.out]; exact hlt))
      have HXB := Lib.hid (HOK.out (gF L k) (gF_mem (by rw [HM.out]; exact hlt)))
      have HOB := Lib.hid (fun y (hy : y ∈ fnS (L.take k)) => HOK.out y (List.mem_of_mem_take (fnS_mem hy)))
      have HGR := Lib.hid (fnS_grow L (k + 1))
      have hmb : m ≤ 40000 := by have := HLN.out; rw [HM.out, ← HNR.out] at this; omega
      have hwk : wrap64 ((k : Int) + 1) = ((k + 1 : Nat) : Int) := by unfold wrap64; omega
      have hms : m - (intOf (Value.int .i64 ((k + 1 : Nat) : Int))).toNat < m - (intOf (Value.int .i64 (k : Int))).toNat := ms_lt hlt
      generalize fnS (L.take k) = out at *
      generalize gF L k = x at *
      obtain ⟨lq, hlq⟩ : ∃ y, out.length = y := ⟨_, rfl⟩
      obtain ⟨AQ, cQ, rfl⟩ := HS.out.own.shape
      rw [hlq] at HS hl60 ⊢
      have HLQ := Lib.hid hlq
      have HS0 : Hid (FiP w (wr.alloc (.cells (fdC x).toArray 47)) (.slice AQ lq cQ) (.slice (some ⟨g, 0, none⟩) m cL) out L ∧ (wr.alloc (.cells (fdC x).toArray 47)).heap[wr.heap.size]? = some (.cells (fdC x).toArray 47 (0, 0)) ∧ ∀ i, i < 0 → nrF (gF out i) x = false) := Lib.hid ⟨HS.out.keep ((Below.refl _ _).alloc (Nat.le_refl _) _), heap_alloc_new _ _, fun i hi => absurd hi (by omega)⟩
      clear HS hlq
      go_wp2_with fail
      go_loopw [19] (fun i wi => ∃ j : Nat, j ≤ lq ∧ i = .int .i64 j ∧ Hid (FiP w wi (.slice AQ lq cQ) (.slice (some ⟨g, 0, none⟩) m cL) out L ∧ wi.heap[wr.heap.size]? = some (.cells (fdC x).toArray 47 (0, 0)) ∧ ∀ i, i < j → nrF (gF out i) x = false)) (fun i _ => lq - (intOf i).toNat)
      case atStart => exact ⟨0, Nat.zero_le _, rfl, HS0⟩
      case round =>
        clear HS0
        rename World => wi
        obtain ⟨j, hj, rfl, HS⟩ := hrel
        have hzi := HS.out.1.bel.size
        have hbx := lt_of_block HS.out.2.1
        have hzx : w.heap.size < wi.heap.size := by omega
        obtain ⟨bx0, bx1, bx2, bx3⟩ : wi.cell? ⟨wr.heap.size, 0, none⟩ = some (.int .i64 (x.r : Nat)) ∧ wi.cell? ⟨wr.heap.size, 1, none⟩ = some (.int .i64 (x.c : Nat)) ∧ wi.cell? ⟨wr.heap.size, 2, none⟩ = some (.int .i64 (x.h : Nat)) ∧ wi.cell? ⟨wr.heap.size, 3, none⟩ = some (.int .i64 (x.w : Nat)) := by
          refine ⟨?_, ?_, ?_, ?_⟩ <;> · rw [cell_of_row wi wr.heap.size _ _ _ (0, 0) HS.out.2.1]; rfl
        by_cases hjq : j < lq
        · have hjI : (j : Int) < (lq : Int) := by omega
          obtain ⟨gq, rfl, hgq, y0, y1, y2, y3⟩ := fd_look HS.out.1.own HLQ.out hjq
          have HYB := Lib.hid (HOB.out (gF out j) (gF_mem (by rw [HLQ.out]; exact hjq)))
          have HYE := Lib.hid (fun h : nrF (gF out j) x = true => any_yes (j := j) (by rw [HLQ.out]; exact hjq) h)
          have HJN : Hid (nrF (gF out j) x = false → ∀ i, i < j + 1 → nrF (gF out i) x = false) := Lib.hid (fun h i hi => by
            rcases Nat.lt_or_ge i j with h1 | h1
            · exact HS.out.2.2 i h1
            · rw [show i = j by omega]; exact h)
          generalize gF out j = y at *
          have HNA := Lib.hid (fun w => near_any y x w HYB.out HXB.out)
          have HKP : Hid (∀ w2, Below (wi.heap.size + 1) (wi.alloc (.cells #[.int .i64 (y.r : Nat), .int .i64 (y.c : Nat), .int .i64 (y.h : Nat), .int .i64 (y.w : Nat)] 47)) w2 → FiP w w2 (.slice (some ⟨gq, 0, none⟩) lq cQ) (.slice (some ⟨g, 0, none⟩) m cL) out L ∧ w2.heap[wr.heap.size]? = some (.cells (fdC x).toArray 47 (0, 0))) := Lib.hid (fun w2 hb => by
            have h1 := HS.out.1.keep ((Below.refl _ wi).alloc (Nat.le_refl _) (.cells #[.int .i64 (y.r : Nat), .int .i64 (y.c : Nat), .int .i64 (y.h : Nat), .int .i64 (y.w : Nat)] 47))
            exact ⟨h1.keep (by simpa using hb), (hb.block wr.heap.size (by omega)).trans (blk_alloc HS.out.2.1 hbx)⟩)
          cases hnr : nrF y x with
          | true =>
            rw [hnr] at HNA
            have HOUT : Hid (fnX out x = out) := Lib.hid (by unfold fnX; rw [HYE.out hnr]; rfl)
            clear hnr
            go_wp2_with (go_at_call 49; with_reducible refine (HNA.out _).mono ?_; rintro e2 w2 ⟨rfl, hb2⟩; have HS2 := Lib.hid (HKP.out w2 (by have h := hb2; rw [World.size_alloc] at h; exact h)); clear hb2)
            rw [hwk]
            exact ⟨⟨k + 1, hlt, rfl, Lib.hid (HS2.out.1.to (by rw [HFX.out, HOUT.out])), by rw [HFX.out, HOUT.out, HLQ.out]; exact hl60⟩, hms⟩
          | false =>
            rw [hnr] at HNA
            have HJ2 := Lib.hid (HJN.out hnr)
            clear hnr
            go_wp2_with (go_at_call 49; with_reducible refine (HNA.out _).mono ?_; rintro e2 w2 ⟨rfl, hb2⟩; have HS2 := Lib.hid (HKP.out w2 (by have h := hb2; rw [World.size_alloc] at h; exact h)); clear hb2)
            go_roundw
            case rel => exact ⟨j + 1, by omega, by go_num, Lib.hid ⟨HS2.out.1, HS2.out.2, HJ2.out⟩⟩
            case measure => simp [intOf]; omega
        · obtain rfl : j = lq := by omega
          have HFR : Hid (fnX out x = out ++ [x]) := Lib.hid (by unfold fnX; rw [any_no HS.out.2.2 (by rw [HLQ.out]; exact Nat.le_refl _)]; rfl)
          by_cases h60 : j = 60
          · subst h60
            have HLIM : Hid (60 < (fnS L).length) := Lib.hid (app_gt HLQ.out (by have h1 := HGR.out; rw [HFX.out, HFR.out] at h1; exact h1))
            have HBF := Lib.hid HS.out.1.bel
            clear HS
            go_wp2_with fail
            try rw [Exit.noGoto_ret]
            go_returns
            exact ⟨.inr ⟨HLIM.out, rfl⟩, HBF.out⟩
          · have hI : (((j : Nat) : Int) == 60) = false := by simp; omega
            have HOA := Lib.hid HS.out.1.own
            have HNL : Hid ((fnS (L.take (k + 1))).length ≤ 60) := Lib.hid (by rw [HFX.out, HFR.out]; exact app_le HLQ.out hl60 h60)
            go_wp2_with (at_builtin; refine wpList_append_own_at _ rfl _ _ 43 rfl w.heap.size 47 i0 (.agg #[.int .i64 0, .int .i64 0, .int .i64 0, .int .i64 0]) 4 32 Try.underlying43 HI.out.2.1 HI.out.2.2.1 HI.out.2.2.2.1 HI.out.2.2.2.2 rfl (by decide) (.slice AQ j cQ) j (out.flatMap fdC) rfl (by have h := OwnF.alloc HOA.out (.cells (fdC x).toArray 47); rw [HLQ.out] at h; exact h) ⟨wi.heap.size, 0, none⟩ 1 1 (fdC x) rfl rfl (news_runs _ _ _ rfl) (fdC_ok _) (by unfold maxLen; omega) (by omega) (by simp; omega) ?_; intro va wa hown hg _ hat; have HNF := Lib.hid (HS.out.1.app (OwnF.snoc (by rw [HLQ.out]; exact hown)) hg hat); clear hown hg hat)
            rw [hwk]
            exact ⟨⟨k + 1, hlt, rfl, Lib.hid (HNF.out.to (by rw [HFX.out, HFR.out])), HNL.out⟩, hms⟩
    · have hkI : ¬ (k : Int) < (m : Int) := by omega
      have HF : Hid (OwnF wr w.heap.size u4 (fnS L) ∧ (fnS L).length ≤ 60 ∧ Below w.heap.size w wr) := Lib.hid (by
        have e : fnS (L.take k) = fnS L := by rw [List.take_of_length_le (by rw [HM.out]; omega)]
        rw [← e]
        exact ⟨HS.out.own, hl60, HS.out.bel⟩)
      clear HS
      go_wp2_with fail
      try rw [Exit.noGoto_ret]
      go_returns
      exact ⟨.inl ⟨HF.out.2.1, _, rfl, HF.out.1⟩, HF.out.2.2⟩
end Go.Proofs.Ytkipaefhnmfebaa
namespace Go.Proofs.Ytkipaefhnmfebaa
set_option linter.unusedSimpArgs false
open Go.RowKit

theorem five_take (a b c d e : Int) : ([a, b, c, d, e] : List Int).take 5 = [a, b, c, d, e] := rfl
set_option maxRecDepth 100000 in
set_option maxHeartbeats 4000000 in
theorem l23Section_any (v : Value) (L : List RnT) (i B : Nat) (w : World) (h : OwnR w B v L) (hok : ∀ k, k < L.length → 1 ≤ (gR L k).l ∧ (gR L k).l ≤ 40000) (hi : i ≤ 1000000) (hl : L.length ≤ 1000000) :
    Calls Try.prog 88 #[v, .int .i64 i] w fun e w' => e = .returned (.bool (secAt L i)) ∧ Below w.heap.size w w' := by
  by_cases hf : L.length < i + 5
  · rw [secAt_far hf]
    obtain ⟨A, c, rfl⟩ := h.t.shape
    generalize L.length = n at *
    clear h hok
    have d0 : decide ((i : Int) < 0) = false := decide_eq_false (by omega)
    have d1 : decide ((n : Int) < (i : Int) + 5) = true := decide_eq_true (by omega)
    go_enter Try.func88, Try.ntmps88
    go_wp2_with fail
    go_ret
    exact ⟨rfl, Below.refl _ _⟩
  · rw [secAt_near (by omega)]
    obtain ⟨g, c, rfl, hB, hg, hc⟩ := h.look (by omega)
    have HL : Hid (sec5 L i = secB (gR L i).l (gR L (i + 1)).l (gR L (i + 2)).l (gR L (i + 3)).l (gR L (i + 4)).l) := Lib.hid rfl
    obtain ⟨h0s, h0, h0d⟩ := hc i (by omega)
    obtain ⟨-, h1, -⟩ := hc (i + 1) (by omega)
    obtain ⟨-, h2, -⟩ := hc (i + 2) (by omega)
    obtain ⟨-, h3, -⟩ := hc (i + 3) (by omega)
    obtain ⟨-, h4, -⟩ := hc (i + 4) (by omega)
    have k0 := hok i (by omega)
    have k1 := hok (i + 1) (by omega)
    have k2 := hok (i + 2) (by omega)
    have k3 := hok (i + 3) (by omega)
    have k4 := hok (i + 4) (by omega)
    clear h hc hok
    obtain ⟨n, hn⟩ : ∃ n, L.length = n := ⟨_, rfl⟩
    rw [hn] at hf hl ⊢
    generalize sec5 L i = S at *
    generalize (gR L i).d = d at *
    generalize (gR L i).l = l0 at *
    generalize (gR L (i + 1)).l = l1 at *
    generalize (gR L (i + 2)).l = l2 at *
    generalize (gR L (i + 3)).l = l3 at *
    generalize (gR L (i + 4)).l = l4 at *
    clear h0s hn
    have d0 : decide ((i : Int) < 0) = false := decide_eq_false (by omega)
    have d1 : decide ((n : Int) < (i : Int) + 5) = false := decide_eq_false (by omega)
    have HC := Lib.hid (And.intro h0 (And.intro h1 (And.intro h2 (And.intro h3 h4))))
    cases d with
    | false =>
      go_enter Try.func88, Try.ntmps88
      go_wp2_with fail
      go_ret
      exact ⟨rfl, Below.refl _ _⟩
    | true =>
      obtain ⟨i0, hi0⟩ := info_own' info_i64s
      have HI := Lib.hid (And.intro i0.bytes.le_refl hi0)
      clear hi0
      go_enter Try.func88, Try.ntmps88
      go_wp2_with fail
      clear h0 h1 h2 h3 h4 h0d
      go_loopw [5, 6] (fun q i' wr => ∃ j : Nat, j ≤ 5 ∧ i' = .int .i64 ((i : Int) + (j : Int)) ∧ Hid (Own wr w.heap.size q (([(l0 : Int), l1, l2, l3, l4] : List Int).take j)) ∧ Hid (Below w.heap.size w wr)) (fun _ i' _ => i + 5 - (intOf i').toNat)
      case atStart =>
        refine ⟨0, by omega, by simp, Lib.hid ?_, Lib.hid (by go_grown)⟩
        have := World.ownsRow_made (e := 2) (size := 1) (base := w.heap.size) w #[] 0 (Nat.le_refl _) (by unfold maxLen; omega) rfl
        simpa [Own] using this
      case round =>
        obtain ⟨j, hj, rfl, HO, HB⟩ := hrel
        have hzw := HB.out.size
        have HZ := Lib.hid hzw
        by_cases hlt : j < 5
        · have h0 := (HB.out.cell (p := ⟨g, i * 3 + 1, none⟩) hg).trans HC.out.1
          have h1 := (HB.out.cell (p := ⟨g, (i + 1) * 3 + 1, none⟩) hg).trans HC.out.2.1
          have h2 := (HB.out.cell (p := ⟨g, (i + 2) * 3 + 1, none⟩) hg).trans HC.out.2.2.1
          have h3 := (HB.out.cell (p := ⟨g, (i + 3) * 3 + 1, none⟩) hg).trans HC.out.2.2.2.1
          have h4 := (HB.out.cell (p := ⟨g, (i + 4) * 3 + 1, none⟩) hg).trans HC.out.2.2.2.2
          have hx : ∃ x : Nat, nth ([(l0 : Int), l1, l2, l3, l4] : List Int) j = x ∧ wr.cell? ⟨g, (i + j) * 3 + 1, none⟩ = some (.int .i64 (x : Nat)) := by
            have hcs : j = 0 ∨ j = 1 ∨ j = 2 ∨ j = 3 ∨ j = 4 := by omega
            rcases hcs with rfl | rfl | rfl | rfl | rfl
            · exact ⟨l0, rfl, h0⟩
            · exact ⟨l1, rfl, h1⟩
            · exact ⟨l2, rfl, h2⟩
            · exact ⟨l3, rfl, h3⟩
            · exact ⟨l4, rfl, h4⟩
          obtain ⟨x, hnx, hcx⟩ := hx
          have HT : Hid (([(l0 : Int), l1, l2, l3, l4] : List Int).take (j + 1) = ([(l0 : Int), l1, l2, l3, l4] : List Int).take j ++ [(x : Int)]) := Lib.hid (by rw [take_nth (by simpa using hlt), hnx])
          have HLE : Hid ((([(l0 : Int), l1, l2, l3, l4] : List Int).take j).length ≤ 5) := Lib.hid (by simp; omega)
          generalize ([(l0 : Int), l1, l2, l3, l4] : List Int).take j = T at *
          have hLE := HLE.out
          clear h0 h1 h2 h3 h4 hnx
          obtain ⟨A', c', rfl, -⟩ := HO.out.shape
          obtain ⟨m, hm⟩ : ∃ m, T.length = m := ⟨_, rfl⟩
          go_wp2_with (at_builtin; refine wpList_append_own _ rfl _ _ 22 rfl (w.heap.size) 2 i0 (.int .i64 0) 1 8 Try.underlying22 HI.out.2.1 HI.out.2.2.1 HI.out.2.2.2.1 HI.out.2.2.2.2 rfl (by decide) _ _ _ rfl (Own.alloc HO.out _) ⟨wr.heap.size, 0, none⟩ 1 1 [.int .i64 ((x : Nat))] rfl rfl (cell_one_new _ _ _) (one_ok _) (own_max HO.out (by omega)) (own_bytes HO.out (by omega)) (own_base HZ.out) ?_; intro va wa howna hgrowa _; have hoa := Lib.hid (Own.snoc howna); have hga := Lib.hid hgrowa; clear howna hgrowa)
          go_roundw
          case rel => exact ⟨j + 1, by omega, by go_num, Lib.hid (hoa.out.to HT.out.symm), Lib.hid (HO.out.below_grown HB.out hzw hga.out)⟩
          case measure => simp [intOf]; omega
        · obtain rfl : j = 5 := by omega
          have HO5 : Hid (Own wr w.heap.size u5 [(l0 : Int), l1, l2, l3, l4]) := Lib.hid HO.out
          obtain ⟨A', c', rfl, hri⟩ := HO5.out.shape
          have hri : RI wr wr.heap.size A' 5 [(l0 : Int), l1, l2, l3, l4] := hri
          have HRI := Lib.hid hri
          have HCI := Lib.hid (fun cp w' hr => sIsSection_any l0 l1 l2 l3 l4 A' cp w' hr k0 k1 k2 k3 k4)
          clear hri HC
          go_wp2_with (go_at_call 111; refine (HCI.out _ _ HRI.out).mono ?_; rintro e6 w6 ⟨rfl, hb6⟩)
          go_ret
          exact ⟨ret_bool (by rw [HL.out]; rfl), HB.out.trans (hb6.mono hzw)⟩
set_option maxRecDepth 100000 in
set_option maxHeartbeats 4000000 in
theorem l23Whole_any (v : Value) (L : List RnT) (i B : Nat) (w : World) (h : OwnR w B v L) (hi : i + 5 ≤ L.length) (hl : L.length ≤ 1000000) (hs : (gR L i).s + sum5 L i = (gR L (i + 4)).s + (gR L (i + 4)).l) (hb : (gR L (i + 4)).s + (gR L (i + 4)).l ≤ 1000000) :
    Calls Try.prog 89 #[v, .int .i64 i] w fun e w' => e = .returned (.agg #[.int .i64 ((gR L i).s : Nat), .int .i64 (sum5 L i : Nat), .bool true]) ∧ Below w.heap.size w w' := by
  obtain ⟨g, c, rfl, hB, hg, hc⟩ := h.look (by omega)
  obtain ⟨h0, -, -⟩ := hc i (by omega)
  obtain ⟨h4s, h4, h4d⟩ := hc (i + 4) (by omega)
  clear h hc
  obtain ⟨n, hn⟩ : ∃ n, L.length = n := ⟨_, rfl⟩
  rw [hn] at hi hl ⊢
  generalize sum5 L i = S at *
  generalize (gR L i).s = s0 at *
  generalize (gR L (i + 4)).s = s4 at *
  generalize (gR L (i + 4)).l = l4 at *
  generalize (gR L (i + 4)).d = d4 at *
  have HS := Lib.hid hs
  have hin : i < n := by omega
  have hw1 : IntKind.i64.wrap ((s4 : Int) + (l4 : Int)) = (s4 : Int) + (l4 : Int) := wr64s (by omega)
  have hw2 : IntKind.i64.wrap ((s4 : Int) + (l4 : Int) - (s0 : Int)) = (S : Int) := by rw [wr64s (by omega)]; omega
  have hg1 : g < w.heap.size + 1 := by omega
  have hg2 : g < w.heap.size + 1 + 1 := by omega
  clear hn
  go_enter Try.func89, Try.ntmps89
  go_wp2_with fail
  refine wp_region_qat [] 17 [] (by kernel_rfl) (by kernel_rfl) ?_
  intro hbc
  simp only [List.take_succ_cons, List.take_zero, List.drop_succ_cons, List.drop_zero]
  repeat (first
    | refine wpQ_pass rfl ?_
    | (refine wpQ_step rfl (fun K hK => ?_)
       go_simp
       first
         | (refine hK _ ?_; clear hK K)))
  refine wpQ_nil ⟨?_, ?_⟩
  · exact rfl
  intro  w3 hb3 hF3
  clear hbc
  obtain ⟨hc3, hf3⟩ := bcell hb3
  have hB3 : Below w.heap.size w w3 := below_then (by first | (go_grown; done) | (repeat (first | (with_reducible assumption) | (with_reducible exact Below.refl _ _) | (with_reducible refine below_drewN' ?_ _) | (with_reducible refine Below.drew ?_) | ((with_reducible refine Below.alloc ?_ ?_ _); rotate_left; focus (first | (simp; done) | (simp; omega) | omega)) | ((with_reducible refine Below.setCell ?_ ?_ _); rotate_left; focus (first | (simp; done) | (simp; omega) | omega))))) (by first | (simp; done) | (simp; omega) | omega) hb3
  clear hF3
  try simp only [Act.put, List.setIfInBounds_toArray, List.set_cons_succ, List.set_cons_zero]
  have hz : w3.heap[w.heap.size]? = some (.cells #[.int .i64 0, .int .i64 0, .bool false] 115 (0, 0)) := (hb3.block _ (by simp; omega)).trans (by (repeat (first | (with_reducible exact heap_alloc_new _ _) | (rw [heap_drew1]) | (rw [heap_drewN1]) | (rw [Below.heap_setCell _ _ _ _ (by first | omega | (simp; done) | (simp; omega))]) | (rw [Below.heap_alloc _ _ _ (by first | omega | (simp; done) | (simp; omega))]) | (exact heap_alloc_at (by first | omega | (simp; done) | (simp; omega))))))
  obtain ⟨t0, t1, t2⟩ := res3 hz (.int .i64 s0) (.int .i64 S) (.bool true)
  go_wp2_with fail
  (try simp only [Exit.inBlock, Exit.then]); refine bodyPost_ret (by simp [results, Try.results89, go_sem, t0, t1, t2]; try rfl) rfl ?_
  exact ⟨rfl, by (repeat (first | (with_reducible assumption) | (with_reducible exact Below.refl _ _) | (with_reducible refine below_drewN' ?_ _) | (with_reducible refine Below.drew ?_) | ((with_reducible refine Below.alloc ?_ ?_ _); rotate_left; focus (first | (simp; done) | (simp; omega) | omega)) | ((with_reducible refine Below.setCell ?_ ?_ _); rotate_left; focus (first | (simp; done) | (simp; omega) | omega))))⟩
end Go.Proofs.Ytkipaefhnmfebaa
namespace Go.Proofs.Ytkipaefhnmfebaa
set_option linter.unusedSimpArgs false
open Go.RowKit Go.Deep

theorem row_cells' {G : List Int} {C r k : Nat} (hk : k < C) : nth (lnR G C r) k = nth G (r * C + k) := by
  unfold nth lnR
  rw [List.getD_eq_getElem?_getD, List.getD_eq_getElem?_getD, List.getElem?_take, if_pos hk, List.getElem?_drop]
theorem row_ri' {W : World} {B R C r n : Nat} {A : Option Addr} {G : List Int} (h : RI W B A n G) (hn : n = R * C) (hr : r < R) (hC : 1 ≤ C) : ∃ b o, A = some ⟨b, o, none⟩ ∧ b < B ∧ RI W B (some ⟨b, o + r * C, none⟩) C (lnR G C r) := by
  have hl := Nat.mul_le_mul_right C (show r + 1 ≤ R from hr)
  rw [Nat.succ_mul] at hl
  obtain ⟨b, o, rfl, hb, hc⟩ := h.cells (by omega)
  refine ⟨b, o, rfl, hb, lnR_len (by rw [h.len, hn]) hr, fun _ => ⟨b, o + r * C, rfl, hb, fun k hk => ?_⟩⟩
  rw [row_cells' hk, Nat.add_assoc]
  exact hc (r * C + k) (by omega)
/-- The list under way, and two lists of runs. -/
structure CtP (w0 W : World) (q : Value) (M : List FdT) (v5 : Value) (Lr : List RnT) : Prop where
  own : OwnF W w0.heap.size q M
  bel : Below w0.heap.size w0 W
  run : OwnR W w0.heap.size v5 Lr
structure CuP (w0 W : World) (q : Value) (M : List FdT) (v5 : Value) (Lr : List RnT) (v8 : Value) (Ld : List RnT) (b7 x y : Nat) : Prop where
  c : CtP w0 W q M v5 Lr
  col : OwnR W w0.heap.size v8 Ld
  box : W.heap[b7]? = some (.cells #[.int .i64 (x : Nat), .int .i64 (y : Nat), .bool true] 115 (0, 0))
section
variable {w0 W W' : World} {q v5 v8 : Value} {M : List FdT} {Lr Ld : List RnT} {b7 x y : Nat}
theorem OwnR.keep {w w' : World} {B : Nat} {v : Value} {L : List RnT} (h : OwnR w B v L) (hb : Below w.heap.size w w') : OwnR w' B v L := OwnT.keep h.t hb
theorem OwnR.more {w : World} {B B' : Nat} {v : Value} {L : List RnT} (h : OwnR w B v L) (hB : B' ≤ B) : OwnR w B' v L := OwnT.more h.t hB
theorem OwnR.shape {w : World} {B : Nat} {v : Value} {L : List RnT} (h : OwnR w B v L) : ∃ A c, v = .slice A L.length c := OwnT.shape h.t
theorem CtP.keep (h : CtP w0 W q M v5 Lr) (hb : Below W.heap.size W W') : CtP w0 W' q M v5 Lr := ⟨h.own.keep hb, h.bel.trans (hb.mono h.bel.size), h.run.keep hb⟩
theorem CuP.keep (h : CuP w0 W q M v5 Lr v8 Ld b7 x y) (hb : Below W.heap.size W W') : CuP w0 W' q M v5 Lr v8 Ld b7 x y := ⟨h.c.keep hb, h.col.keep hb, (hb.block b7 (lt_of_block h.box)).trans h.box⟩
theorem CtP.to {M' : List FdT} (h : CtP w0 W q M v5 Lr) (e : M = M') : CtP w0 W q M' v5 Lr := e ▸ h
theorem CuP.to {M' : List FdT} (h : CuP w0 W q M v5 Lr v8 Ld b7 x y) (e : M = M') : CuP w0 W q M' v5 Lr v8 Ld b7 x y := e ▸ h
theorem CuP.app {q' : Value} {M' : List FdT} {o : Obj} (h : CuP w0 W q M v5 Lr v8 Ld b7 x y) (ho : OwnF W' w0.heap.size q' M') (hg : (W.alloc o).grownBy W' q.ownBlock) : CuP w0 W' q' M' v5 Lr v8 Ld b7 x y := by
  refine ⟨⟨ho, (h.c.bel.alloc h.c.bel.size _).grown hg (by have := h.c.bel.size; rw [World.size_alloc]; omega) fun j hj => (h.c.own.lt j hj).1, OwnT.grownN h.c.run.t h.c.own hg (by decide)⟩, OwnT.grownN h.col.t h.c.own hg (by decide), grown1 h.c.own hg h.box (by decide)⟩
theorem CuP.cells (h : CuP w0 W q M v5 Lr v8 Ld b7 x y) : W.cell? ⟨b7, 0, none⟩ = some (.int .i64 (x : Nat)) ∧ W.cell? ⟨b7, 1, none⟩ = some (.int .i64 (y : Nat)) := by
  obtain ⟨h0, h1, -, -⟩ := blk3 h.box
  exact ⟨h0, h1⟩
end
/-- Three cells of a run in a list that is carried. -/
theorem run_look {w : World} {B k m c : Nat} {A : Option Addr} {L : List RnT} (h : OwnR w B (.slice A m c) L) (hm : L.length = m) (hk : k < m) : ∃ g, A = some ⟨g, 0, none⟩ ∧ g < w.heap.size ∧ w.cell? ⟨g, k * 3, none⟩ = some (.int .i64 ((gR L k).s : Nat)) ∧ w.cell? ⟨g, k * 3 + 1, none⟩ = some (.int .i64 ((gR L k).l : Nat)) ∧ w.cell? ⟨g, k * 3 + 2, none⟩ = some (.bool (gR L k).d) := by
  obtain ⟨g, c', e, -, hg, hc⟩ := h.look (by omega)
  rw [hm] at e
  simp only [Value.slice.injEq] at e
  exact ⟨g, e.1, hg, hc k (by omega)⟩
theorem len_bd2 {A B : List FdT} {L : List SecT} {k m rC C n : Nat} (h1 : B.length ≤ L.length) (hk : L.length ≤ k) (hkm : k ≤ m) (h2 : A.length ≤ rC) (h3 : m ≤ C) (h4 : rC + C ≤ n) (h5 : n ≤ 40000) : (A ++ B).length ≤ 80000 := by
  rw [List.length_append]; omega
theorem filt_len {D : List SecT} {r : Nat} {s : SecT} {A : List FdT} {N : Nat} (hp : D.Pairwise apT) (hA : A.length ≤ N) : (A ++ (D.filter (hitB r)).map (fdV s)).length ≤ N + 1 := by
  rw [List.length_append, List.length_map]
  have := hit_len (r := r) hp
  omega
set_option maxRecDepth 100000 in
set_option maxHeartbeats 16000000 in
theorem l23Candidates_any (R C : Nat) (A : Option Addr) (n cp : Nat) (G : List Int) (w : World) (hr : RI w w.heap.size A n G) (hn : n = R * C) (hcp : n ≤ cp ∧ cp ≤ 9223372036854775807) (hnb : n ≤ 40000) (hR : R ≤ 40000) (hC : 1 ≤ C ∧ C ≤ 40000) :
    Calls Try.prog 71 #[.agg #[.int .i64 R, .int .i64 C, .slice A n cp]] w fun e w' => ∃ v, e = .returned v ∧ OwnF w' w.heap.size v (cdN G R C R) ∧ Below w.heap.size w w' := by
  obtain ⟨i0, hi⟩ := info_own' info_fds
  have HI := Lib.hid (And.intro i0.bytes.le_refl hi)
  clear hi
  obtain ⟨w0, hw0⟩ : ∃ w0, w.alloc (.cells #[.int .i64 R, .int .i64 C, .slice A n cp] 41) = w0 := ⟨_, rfl⟩
  have hz0 : w0.heap.size = w.heap.size + 1 := by rw [← hw0]; simp
  have HBX : Hid (w0.heap[w.heap.size]? = some (.cells #[.int .i64 R, .int .i64 C, .slice A n cp] 41 (0, 0))) := Lib.hid (by rw [← hw0]; exact heap_alloc_new _ _)
  have HB0 : Hid (Below w.heap.size w w0) := Lib.hid (by rw [← hw0]; go_grown)
  have HR : Hid (RI w0 w0.heap.size A n G) := Lib.hid ((hr.below HB0.out).more (by omega))
  have HLN := Lib.hid (hr.len.trans hn)
  have HNR := Lib.hid hn
  have HCM := Lib.hid (fun r (h : r ≤ R) => cdN_len HLN.out r h)
  clear hr hn
  have HP0 : Hid (∀ b, b = w0.heap.size → OwnF (w0.alloc (.cells #[] 47)) w0.heap.size (.slice (some ⟨b, 0, none⟩) 0 0) (cdN G R C 0) ∧ Below w0.heap.size w0 (w0.alloc (.cells #[] 47))) := Lib.hid (by rintro b rfl; exact ⟨OwnF.empty (Nat.le_refl _), by go_grown⟩)
  go_enter Try.func71, Try.ntmps71
  go_wp2_with fail
  go_loopw [3, 4] (fun q i wr => ∃ r : Nat, r ≤ R ∧ i = .int .i64 r ∧ Hid (OwnF wr w0.heap.size q (cdN G R C r) ∧ Below w0.heap.size w0 wr)) (fun _ i _ => R - (intOf i).toNat)
  case atStart => exact ⟨0, Nat.zero_le _, rfl, Lib.hid (HP0.out _ hz0.symm)⟩
  case round =>
    clear HP0
    obtain ⟨r, hr, rfl, HS⟩ := hrel
    have hwz := lt_of_block HBX.out
    have hzr := HS.out.2.size
    obtain ⟨z0, z1, z2, -⟩ := blk3 ((HS.out.2.block w.heap.size hwz).trans HBX.out)
    by_cases hlt : r < R
    · have hrR : (r : Int) < (R : Int) := by omega
      obtain ⟨b, o, rfl, hbw, hri⟩ := row_ri' (HR.out.below HS.out.2) HNR.out hlt hC.1
      have hrn : r * C + C ≤ n := by
        have hl := Nat.mul_le_mul_right C (show r + 1 ≤ R from hlt)
        rw [Nat.succ_mul] at hl
        rw [HNR.out]; exact hl
      obtain ⟨rC, hrC⟩ : ∃ x, r * C = x := ⟨_, rfl⟩
      have he1 : (r : Int) * (C : Int) = (rC : Nat) := by rw [← hrC]; simp
      have he2 : ((r : Int) + 1) * (C : Int) = (rC : Int) + (C : Int) := by rw [Int.add_mul, he1, Int.one_mul]
      rw [hrC] at hrn hri
      have HRU := Lib.hid (l23Runs_any (some ⟨b, o + rC, none⟩) C (cp - rC) (lnR G C r) _ (hri.more hzr) (by omega))
      have HCD : Hid (cdN G R C (r + 1) = cdN G R C r ++ (secS (rnS (lnR G C r) C) (rnS (lnR G C r) C).length).flatMap (cdS G R C r)) := Lib.hid (by rw [cdN, cdR, secs, hri.len])
      have hcl := HCM.out r (by omega)
      rw [hrC] at hcl
      have HLO := Lib.hid (rnS_ok (lnR G C r) C)
      have HLM := Lib.hid (fun k (hk : k < (rnS (lnR G C r) C).length) => rnS_mem (lnR G C r) C _ (gR_mem hk))
      have hsl := rnS_len (lnR G C r) C
      have HSO := Lib.hid (secS_ok (lnR G C r) C)
      clear hri hrC
      generalize rnS (lnR G C r) C = Lr at *
      obtain ⟨m, hm⟩ : ∃ m, Lr.length = m := ⟨_, rfl⟩
      rw [hm] at HCD HLM hsl
      have HM := Lib.hid hm
      have HCL := Lib.hid (And.intro hcl hsl)
      go_wp2_with (go_at_call 87; with_reducible refine HRU.out.mono ?_; rintro e2 w2 ⟨v2, rfl, hos, hb2⟩; obtain ⟨A2, c2, rfl⟩ := hos.shape; rw [hm] at hos ⊢; have HP2 := Lib.hid (show CtP w0 w2 u3 (cdN G R C r ++ (secS Lr 0).flatMap (cdS G R C r)) (.slice A2 m c2) Lr from ⟨(HS.out.1.keep hb2).to (by simp [secS]), HS.out.2.trans (hb2.mono hzr), hos.more hzr⟩); clear hos hb2)
      clear HRU HS z0 z1 z2 he1 he2 hcl hm
      go_loopw [3, 6] (fun q i wr => ∃ k : Nat, k ≤ m ∧ i = .int .i64 k ∧ Hid (CtP w0 wr q (cdN G R C r ++ (secS Lr k).flatMap (cdS G R C r)) (.slice A2 m c2) Lr)) (fun _ i _ => m - (intOf i).toNat)
      case atStart => exact ⟨0, Nat.zero_le _, rfl, HP2⟩
      case round =>
        clear HP2
        rename World => wi
        obtain ⟨k, hk, rfl, HS⟩ := hrel
        have hzi := HS.out.bel.size
        by_cases hkm : k < m
        · have hkmI : (k : Int) < (m : Int) := by omega
          have HSE := Lib.hid (fun w' (hb : Below wi.heap.size wi w') => l23Section_any (.slice A2 m c2) Lr k w0.heap.size w' (HS.out.keep hb).run (fun j hj => ⟨HLO.out.pos j hj, by have := HLM.out j (by rw [HM.out] at hj; exact hj); have := HCL.out.2; omega⟩) (by have := HCL.out.2; omega) (by rw [HM.out]; have := HCL.out.2; omega))
          cases hsec : secAt Lr k with
          | false =>
            rw [hsec] at HSE
            have HN := Lib.hid (secS_no hsec)
            clear hsec
            go_wp2_with (go_at_call 88; with_reducible refine (HSE.out _ (Below.refl _ _)).mono ?_; rintro e3 w3 ⟨rfl, hb3⟩; have HS3 := Lib.hid (HS.out.keep hb3); clear hb3)
            go_roundw
            case rel => exact ⟨k + 1, by omega, by go_num, Lib.hid (HS3.out.to (by rw [HN.out]))⟩
            case measure => simp [intOf]; omega
          | true =>
            rw [hsec] at HSE
            have HN := Lib.hid (secS_yes hsec)
            have h5 : k + 5 ≤ m := by
              rcases Nat.lt_or_ge m (k + 5) with h | h
              · rw [secAt_far (by rw [HM.out]; exact h)] at hsec; cases hsec
              · exact h
            have hso := HSO.out k.succ (secV Lr k) (by rw [HN.out]; simp)
            have HWH := Lib.hid (fun w' (hb : Below wi.heap.size wi w') => l23Whole_any (.slice A2 m c2) Lr k w0.heap.size w' (HS.out.keep hb).run (by rw [HM.out]; exact h5) (by rw [HM.out]; have := HCL.out.2; omega) (sum5_end HLO.out (by rw [HM.out]; exact h5)) (by have := HLM.out (k + 4) (by omega); omega))
            have hmc : mdC (secV Lr k) < C := by have := hso.m; have := hso.p; unfold mdC; omega
            obtain ⟨mc, hmc'⟩ : ∃ x, mdC (secV Lr k) = x := ⟨_, rfl⟩
            have HCDS : Hid (cdS G R C r (secV Lr k) = ((secS (rnS (lnC G R C mc) R) (rnS (lnC G R C mc) R).length).filter (hitB r)).map (fdV (secV Lr k))) := Lib.hid (by unfold cdS secs; rw [hmc', lnC_len])
            have HLC := Lib.hid (fun w' (hb : Below w0.heap.size w0 w') => l23Column_any R C mc (some ⟨b, o, none⟩) n cp G w' ((HR.out.below hb).more hb.size) HNR.out hR hC.2 (by omega) hnb)
            obtain ⟨s0, hs0⟩ : ∃ x, (gR Lr k).s = x := ⟨_, rfl⟩
            obtain ⟨sl, hsl0⟩ : ∃ x, sum5 Lr k = x := ⟨_, rfl⟩
            obtain ⟨ms, hms⟩ : ∃ x, (gR Lr (k + 2)).s = x := ⟨_, rfl⟩
            obtain ⟨ml, hml⟩ : ∃ x, (gR Lr (k + 2)).l = x := ⟨_, rfl⟩
            have HFD : Hid (∀ t : SecT, fdV (secV Lr k) t = ⟨2 * t.s + t.l, 2 * s0 + sl, t.l, sl⟩) := Lib.hid (fun t => by unfold fdV; rw [← hs0, ← hsl0]; rfl)
            have hmcv : (ms : Int) + (ml : Int) / 2 = (mc : Nat) := by
              rw [← hmc', ← hms, ← hml, show mdC (secV Lr k) = (gR Lr (k + 2)).s + (gR Lr (k + 2)).l / 2 from rfl]; omega
            have hsle : s0 + sl ≤ 40000 := by have := hso.e; rw [← hs0, ← hsl0]; have : (gR Lr k).s + sum5 Lr k ≤ C := this; omega
            have hmsb : ms + ml ≤ 40000 := by have := hso.m; rw [← hms, ← hml]; have : (gR Lr (k + 2)).s + (gR Lr (k + 2)).l ≤ C := this; omega
            have hkw : k + 2 < m := by omega
            have hbA := HB0
            rw [hs0, hsl0] at HWH
            have HLK := Lib.hid (fun w' (h : CtP w0 w' u3 (cdN G R C r ++ (secS Lr k).flatMap (cdS G R C r)) (.slice A2 m c2) Lr) => run_look h.run HM.out hkw)
            rw [hms, hml] at HLK
            clear hsec hso hmc hs0 hsl0 hms hml hmc'
            go_wp2_with first | (go_at_call 88; with_reducible refine (HSE.out _ (Below.refl _ _)).mono ?_; rintro e3 w3 ⟨rfl, hb3⟩; have HB3 := Lib.hid hb3; have hz3 := hb3.size; clear hb3) | (go_at_call 89; with_reducible refine (HWH.out _ HB3.out).mono ?_; rintro e4 w4 ⟨rfl, hb4⟩; have HB4 := Lib.hid (HB3.out.trans (hb4.mono hz3)); have hz4 := hb4.size; clear hb4)
            obtain ⟨W11, hW11⟩ : ∃ W11, w4.alloc (.cells #[.int .i64 s0, .int .i64 sl, .bool true] 115) = W11 := ⟨_, rfl⟩
            have HB11 : Hid (Below wi.heap.size wi W11) := Lib.hid (by rw [← hW11]; exact HB4.out.alloc (by omega) _)
            have HBO : Hid (W11.heap[w4.heap.size]? = some (.cells #[.int .i64 s0, .int .i64 sl, .bool true] 115 (0, 0))) := Lib.hid (by rw [← hW11]; exact heap_alloc_new _ _)
            have HS11 := Lib.hid (HS.out.keep HB11.out)
            obtain ⟨g, rfl, hg, y0, y1, -⟩ := HLK.out _ HS11.out
            obtain ⟨z0, z1, z2, -⟩ := blk3 ((HS11.out.bel.block w.heap.size hwz).trans HBX.out)
            have hz11 := HS11.out.bel.size
            have hwk : IntKind.i64.wrap ((k : Int) + 2) = (k : Int) + 2 := wr64s (by omega)
            have hw2 : IntKind.i64.wrap ((ml : Int) / 2) = (ml : Int) / 2 := wr64s (by omega)
            have hw4 : IntKind.i64.wrap (mc : Int) = (mc : Int) := wr64s (by omega)
            have hki : (k : Int) + 2 < (m : Int) := by omega
            have htn : ((k : Int) + 2).toNat = k + 2 := by omega
            have hk0 : (0 : Int) ≤ (k : Int) + 2 := by omega
            obtain ⟨Ld, hLd⟩ : ∃ Ld, rnS (lnC G R C mc) R = Ld := ⟨_, rfl⟩
            obtain ⟨md, hmd⟩ : ∃ x, Ld.length = x := ⟨_, rfl⟩
            have HRX := Lib.hid (fun A cp w' hr => l23Runs_any A R cp (lnC G R C mc) w' hr (by omega))
            have HDO := Lib.hid (rnS_ok (lnC G R C mc) R)
            have HDM := Lib.hid (fun k (hk : k < (rnS (lnC G R C mc) R).length) => rnS_mem (lnC G R C mc) R _ (gR_mem hk))
            have HDL := Lib.hid (rnS_len (lnC G R C mc) R)
            rw [hLd] at HRX HCDS HDO HDM HDL
            rw [hmd] at HCDS HDM HDL
            have HMD := Lib.hid hmd
            obtain ⟨M, hM⟩ : ∃ M, cdN G R C r ++ (secS Lr k).flatMap (cdS G R C r) = M := ⟨_, rfl⟩
            have HML : Hid (M.length ≤ 80000) := Lib.hid (by rw [← hM]; exact len_bd2 (flat_len (cdS_len G R C r) _) (secS_len Lr k) hk HCL.out.1 HCL.out.2 hrn hnb)
            have HMK : Hid (cdN G R C r ++ (secS Lr (k + 1)).flatMap (cdS G R C r) = M ++ ((secS Ld md).filter (hitB r)).map (fdV (secV Lr k))) := Lib.hid (by rw [HN.out, List.flatMap_append, List.flatMap_singleton, HCDS.out, ← List.append_assoc, hM])
            rw [hM] at HS11
            have HPK : Hid (∀ w5 w6 v8, Below W11.heap.size W11 w5 → Below w5.heap.size w5 w6 → OwnR w6 w5.heap.size v8 Ld → CuP w0 w6 u3 M (.slice (some ⟨g, 0, none⟩) m c2) Lr v8 Ld w4.heap.size s0 sl) := Lib.hid (fun w5 w6 v8 h1 h2 h3 =>
              have h12 := h1.trans (h2.mono h1.size)
              ⟨HS11.out.keep h12, h3.more (Nat.le_trans hz11 h1.size), (h12.block _ (lt_of_block HBO.out)).trans HBO.out⟩)
            rw [hW11]
            clear hW11 HB3 HB4 HSE HWH hLd hmd hM
            go_cut [8] (fun t wx => ∃ (A8 : Option Addr) (c8 : Nat), t = .slice A8 md c8 ∧ Hid (CuP w0 wx u3 M (.slice (some ⟨g, 0, none⟩) m c2) Lr (.slice A8 md c8) Ld w4.heap.size s0 sl))
            case first =>
              go_region_law (first
                | (go_simp; (with_reducible refine (HLC.out _ (by first | exact HS11.out.bel | exact HS11.out.bel.drew)).mono ?_; rintro e5 w5 ⟨vc, rfl, hoc, hb5⟩; have hb5' : Below W11.heap.size W11 w5 := (by first | exact hb5 | exact (Below.drew (Below.refl _ W11)).trans (by have h := hb5; rw [heap_drew1] at h; exact h)); obtain ⟨Ac, cc, rfl, hrc⟩ := hoc.shape; rw [lnC_len] at hrc ⊢; have HRC := Lib.hid hrc; have HB5 := Lib.hid hb5'; clear hoc hb5 hb5' hrc))
                | (go_simp; (with_reducible refine (HRX.out _ _ _ HRC.out).mono ?_; rintro e6 w6 ⟨v8, rfl, ho8, hb6⟩; have HU := Lib.hid (HPK.out _ _ _ HB5.out hb6 ho8); obtain ⟨A8, c8, rfl⟩ := ho8.shape; rw [HMD.out] at HU ⊢; clear ho8 hb6)))
              all_goals
                go_wp2_with fail
                go_meet
                case rel => exact ⟨_, _, rfl, HU⟩
            obtain ⟨A8, c8, rfl, HU⟩ := hcut
            have hmdb : md ≤ 40000 := Nat.le_trans HDL.out hR
            clear hg y0 y1 z0 z1 z2 HPK HS11 HBO HLC HRX HB11
            generalize w4.heap.size = b7 at *
            obtain ⟨sv, hsv⟩ : ∃ sv, secV Lr k = sv := ⟨_, rfl⟩
            rw [hsv] at HMK HFD
            clear hsv
            go_wp2_with fail
            go_loopw [3, 9] (fun q i wr => ∃ j : Nat, j ≤ md ∧ i = .int .i64 j ∧ Hid (CuP w0 wr q (M ++ ((secS Ld j).filter (hitB r)).map (fdV sv)) (.slice (some ⟨g, 0, none⟩) m c2) Lr (.slice A8 md c8) Ld b7 s0 sl)) (fun _ i _ => md - (intOf i).toNat)
            case atStart => exact ⟨0, Nat.zero_le _, rfl, Lib.hid (HU.out.to (by simp [secS]))⟩
            case round =>
              clear HU
              rename World => wj
              obtain ⟨j, hj, rfl, HU⟩ := hrel
              by_cases hjm : j < md
              · have hjI : (j : Int) < (md : Int) := by omega
                have hzj := HU.out.c.bel.size
                have HSE := Lib.hid (fun w' (hb : Below wj.heap.size wj w') => l23Section_any (.slice A8 md c8) Ld j w0.heap.size w' (HU.out.keep hb).col (fun i hi => ⟨HDO.out.pos i hi, by have := HDM.out i (by rw [HMD.out] at hi; exact hi); omega⟩) (by have := HDL.out; omega) (by rw [HMD.out]; have := HDL.out; omega))
                cases hsec : secAt Ld j with
                | false =>
                  rw [hsec] at HSE
                  have HNN := Lib.hid (secS_no hsec)
                  clear hsec
                  go_wp2_with fail
                  refine wp_region_qat [] 27 [] (by kernel_rfl) (by kernel_rfl) ?_
                  intro hbc
                  simp only [List.take_succ_cons, List.take_zero, List.drop_succ_cons, List.drop_zero]
                  iterate 4 (first
                    | refine wpQ_pass rfl ?_
                    | (refine wpQ_step rfl (fun K hK => ?_)
                       go_simp
                       first
                         | (refine hK _ ?_; clear hK K)
                         | (apply Exists.intro
                            refine ⟨fun z => ?_, ?_⟩
                            focus (first | (go_at_call 88; exact HSE.out _ (below_blurH (Below.refl _ _) (Nat.le_refl _) _)))
                            refine hK _ ?_
                            clear hK K)))
                  iterate 22 (unfold wpQ; rw [if_neg (by decide), if_neg (by simp [Region.wanted, yielded]; done)]; go_simp)
                  repeat (first
                    | refine wpQ_pass rfl ?_
                    | (refine wpQ_step rfl (fun K hK => ?_)
                       go_simp
                       first
                         | (refine hK _ ?_; clear hK K)
                         | (apply Exists.intro
                            refine ⟨fun z => ?_, ?_⟩
                            focus (first | (go_at_call 88; exact HSE.out _ (below_blurH (Below.refl _ _) (Nat.le_refl _) _)))
                            refine hK _ ?_
                            clear hK K)))
                  refine wpQ_nil ⟨?_, ?_⟩
                  · exact rfl
                  intro  w7 hb7 hF7
                  clear hbc
                  obtain ⟨hc7, hf7⟩ := bcell hb7
                  clear hF7
                  try simp only [Act.put, List.setIfInBounds_toArray, List.set_cons_succ, List.set_cons_zero]
                  clear hc7 hf7
                  go_wp2_with fail
                  go_roundw
                  case rel => exact ⟨j + 1, by omega, by go_num, Lib.hid ((HU.out.keep hb7).to (by rw [HNN.out]))⟩
                  case measure => simp [intOf]; omega
                | true =>
                  rw [hsec] at HSE
                  have HNN := Lib.hid (secS_yes hsec)
                  have h5j : j + 5 ≤ md := by
                    rcases Nat.lt_or_ge md (j + 5) with h | h
                    · rw [secAt_far (by rw [HMD.out]; exact h)] at hsec; cases hsec
                    · exact h
                  have HWJ := Lib.hid (fun w' (hb : Below wj.heap.size wj w') => l23Whole_any (.slice A8 md c8) Ld j w0.heap.size w' (HU.out.keep hb).col (by rw [HMD.out]; exact h5j) (by rw [HMD.out]; have := HDL.out; omega) (sum5_end HDO.out (by rw [HMD.out]; exact h5j)) (by have := HDM.out (j + 4) (by omega); omega))
                  have hfl := HFD.out (secV Ld j)
                  have hir := hit_inR r (secV Ld j)
                  have hb1 := HDM.out (j + 2) (by omega)
                  have hb2 : (gR Ld j).s + sum5 Ld j ≤ R := by rw [sum5_end HDO.out (by rw [HMD.out]; exact h5j)]; exact HDM.out (j + 4) (by omega)
                  have HFI : Hid ((M ++ ((secS Ld (j + 1)).filter (hitB r)).map (fdV sv)) = M ++ ((secS Ld j).filter (hitB r)).map (fdV sv) ++ (if hitB r (secV Ld j) then [fdV sv (secV Ld j)] else [])) := Lib.hid (by
                    rw [HNN.out, List.filter_append, List.map_append, ← List.append_assoc]
                    congr 1
                    cases h : hitB r (secV Ld j) <;> simp [h])
                  have HLJ := Lib.hid (fun w' (h : Below wj.heap.size wj w') => run_look (HU.out.keep h).col HMD.out (show j + 2 < md by omega))
                  have HFL : Hid ((M ++ ((secS Ld j).filter (hitB r)).map (fdV sv)).length ≤ 80001) := Lib.hid (filt_len (secS_apart HDO.out j) HML.out)
                  replace hir : inR (r : Int) ((gR Ld (j + 2)).s : Nat) (((gR Ld (j + 2)).s : Nat) + ((gR Ld (j + 2)).l : Nat) - 1) = hitB r (secV Ld j) := hir
                  replace hfl : fdV sv (secV Ld j) = ⟨2 * (gR Ld j).s + sum5 Ld j, 2 * s0 + sl, sum5 Ld j, sl⟩ := hfl
                  rw [hfl] at HFI
                  obtain ⟨ts, hts⟩ : ∃ x, (gR Ld (j + 2)).s = x := ⟨_, rfl⟩
                  obtain ⟨tl, htl⟩ : ∃ x, (gR Ld (j + 2)).l = x := ⟨_, rfl⟩
                  obtain ⟨xs, hxs⟩ : ∃ x, (gR Ld j).s = x := ⟨_, rfl⟩
                  obtain ⟨xl, hxl⟩ : ∃ x, sum5 Ld j = x := ⟨_, rfl⟩
                  rw [hts, htl] at hir HLJ hb1
                  rw [hxs, hxl] at HWJ HFI hb2
                  obtain ⟨N, hN⟩ : ∃ N, M ++ ((secS Ld j).filter (hitB r)).map (fdV sv) = N := ⟨_, rfl⟩
                  rw [hN] at HU HFI HFL
                  have hwj : IntKind.i64.wrap ((j : Int) + 2) = (j : Int) + 2 := wr64s (by omega)
                  have hj2 : (j : Int) + 2 < (md : Int) := by omega
                  have hjn : ((j : Int) + 2).toNat = j + 2 := by omega
                  have hj0 : (0 : Int) ≤ (j : Int) + 2 := by omega
                  have hw5 : IntKind.i64.wrap ((ts : Int) + (tl : Int)) = (ts : Int) + (tl : Int) := wr64s (by omega)
                  have hw6 : IntKind.i64.wrap ((ts : Int) + (tl : Int) - 1) = (ts : Int) + (tl : Int) - 1 := wr64s (by omega)
                  clear hsec hfl hts htl hxs hxl hN
                  obtain ⟨g8, rfl, hg8, y0, y1, -⟩ := HLJ.out _ (Below.refl _ _)
                  have HIN : Hid (∀ w, Calls Try.prog 70 #[.int .i64 (r : Int), .int .i64 (ts : Int), .int .i64 ((ts : Int) + (tl : Int) - 1)] w fun e w' => e = .returned (.bool (hitB r (secV Ld j))) ∧ Below w.heap.size w w') := Lib.hid (fun w => (l01In_any _ _ _ w).mono (by rintro e w' ⟨rfl, rfl⟩; exact ⟨ret_bool hir, Below.refl _ _⟩))
                  cases hh : hitB r (secV Ld j) with
                  | false =>
                    rw [hh] at HFI HIN
                    clear hh hir
                    go_wp2_with fail
                    refine wp_region_qat [] 27 [] (by kernel_rfl) (by kernel_rfl) ?_
                    intro hbc
                    simp only [List.take_succ_cons, List.take_zero, List.drop_succ_cons, List.drop_zero]
                    repeat (first
                      | refine wpQ_pass rfl ?_
                      | (refine wpQ_step rfl (fun K hK => ?_)
                         go_simp
                         first
                           | (refine hK _ ?_; clear hK K)
                           | (apply Exists.intro
                              refine ⟨fun z => ?_, ?_⟩
                              focus (first | (go_at_call 88; exact HSE.out _ (below_blurH (Below.refl _ _) (Nat.le_refl _) _)) | (go_at_call 70; exact HIN.out _))
                              refine hK _ ?_
                              clear hK K)))
                    refine wpQ_nil ⟨?_, ?_⟩
                    · exact rfl
                    intro  w7 hb7 hF7
                    clear hbc
                    obtain ⟨hc7, hf7⟩ := bcell hb7
                    clear hF7
                    try simp only [Act.put, List.setIfInBounds_toArray, List.set_cons_succ, List.set_cons_zero]
                    clear hc7 hf7 y0 y1
                    go_wp2_with fail
                    go_roundw
                    case rel => exact ⟨j + 1, by omega, by go_num, Lib.hid ((HU.out.keep hb7).to (by rw [HFI.out]; simp))⟩
                    case measure => simp [intOf]; omega
                  | true =>
                    rw [hh] at HFI HIN
                    obtain ⟨f0, hf0⟩ : ∃ x, 2 * xs + xl = x := ⟨_, rfl⟩
                    obtain ⟨f1, hf1⟩ : ∃ x, 2 * s0 + sl = x := ⟨_, rfl⟩
                    rw [hf0, hf1] at HFI
                    have hg0 : 2 * (xs : Int) + (xl : Int) = (f0 : Nat) := by omega
                    have hg1 : 2 * (s0 : Int) + (sl : Int) = (f1 : Nat) := by omega
                    have hNl := HFL.out
                    clear hh hir hf0 hf1
                    go_wp2_with fail
                    refine wp_region_qat [] 27 [] (by kernel_rfl) (by kernel_rfl) ?_
                    intro hbc
                    simp only [List.take_succ_cons, List.take_zero, List.drop_succ_cons, List.drop_zero]
                    repeat (first
                      | refine wpQ_pass rfl ?_
                      | (refine wpQ_step rfl (fun K hK => ?_)
                         go_simp
                         first
                           | (refine hK _ ?_; clear hK K)
                           | (apply Exists.intro
                              refine ⟨fun z => ?_, ?_⟩
                              focus (first | (go_at_call 88; exact HSE.out _ (below_blurH (Below.refl _ _) (Nat.le_refl _) _)) | (go_at_call 70; exact HIN.out _))
                              refine hK _ ?_
                              clear hK K)))
                    refine wpQ_nil ⟨?_, ?_⟩
                    · exact rfl
                    intro  w7 hb7 hF7
                    clear hbc
                    obtain ⟨hc7, hf7⟩ := bcell hb7
                    clear hF7
                    try simp only [Act.put, List.setIfInBounds_toArray, List.set_cons_succ, List.set_cons_zero]
                    have HU7 := Lib.hid (HU.out.keep hb7)
                    have HB7 := Lib.hid hb7
                    have hz7 := HU7.out.c.bel.size
                    clear hc7 hf7 y0 y1 hb7
                    go_wp2_with first | (go_at_call 89; with_reducible refine (HWJ.out _ HB7.out).mono ?_; rintro e9 w9 ⟨rfl, hb9⟩; have HU9 := Lib.hid ((HU7.out.keep hb9).keep ((Below.refl _ _).alloc (Nat.le_refl _) (.cells #[.int .i64 (xs : Nat), .int .i64 (xl : Nat), .bool true] 115))); obtain ⟨q0, q1⟩ := HU9.out.cells; have hz9 := HU9.out.c.bel.size; simp only [World.size_alloc] at hz9; clear hb9) | (at_builtin; refine wpList_append_own _ rfl _ _ 43 rfl w0.heap.size 47 i0 (.agg #[.int .i64 0, .int .i64 0, .int .i64 0, .int .i64 0]) 4 32 Try.underlying43 HI.out.2.1 HI.out.2.2.1 HI.out.2.2.2.1 HI.out.2.2.2.2 rfl (by decide) u3 N.length (N.flatMap fdC) rfl (OwnF.alloc HU9.out.c.own _) ⟨w9.heap.size + 1, 0, none⟩ 1 1 (fdC ⟨f0, f1, xl, sl⟩) rfl rfl (news_runs _ _ _ (by simp)) (fdC_ok _) (by unfold maxLen; omega) (by omega) (by simp; omega) ?_; intro va wa hown hg _; have HNF := Lib.hid (HU9.out.app (OwnF.snoc hown) hg); clear hown hg)
                    go_roundw
                    case rel => exact ⟨j + 1, by omega, by go_num, Lib.hid (HNF.out.to (by rw [HFI.out]; simp))⟩
                    case measure => simp [intOf]; omega
              · obtain rfl : j = md := by omega
                have HNO : Hid (CtP w0 wj u3 (cdN G R C r ++ (secS Lr (k + 1)).flatMap (cdS G R C r)) (.slice (some ⟨g, 0, none⟩) m c2) Lr) := Lib.hid (HU.out.c.to HMK.out.symm)
                clear HU
                go_wp2_with fail
                go_roundw
                case rel => exact ⟨k + 1, by omega, by go_num, HNO⟩
                case measure => simp [intOf]; omega
        · obtain rfl : k = m := by omega
          have HNO : Hid (OwnF wi w0.heap.size u3 (cdN G R C (r + 1)) ∧ Below w0.heap.size w0 wi) := Lib.hid ⟨HS.out.own.to HCD.out.symm, HS.out.bel⟩
          clear HS
          go_wp2_with fail
          go_roundw
          case rel => exact ⟨r + 1, by omega, by go_num, HNO⟩
          case measure => simp [intOf]; omega
    · have hrR : ¬ (r : Int) < (R : Int) := by omega
      have HF : Hid (OwnF wr w.heap.size u3 (cdN G R C R) ∧ Below w.heap.size w wr) := Lib.hid ⟨(HS.out.1.to (show cdN G R C r = cdN G R C R by rw [show R = r by omega])).more (by omega), HB0.out.trans (HS.out.2.mono (by omega))⟩
      clear HS
      go_wp2_with fail
      go_ret
      exact ⟨_, rfl, HF.out.1, HF.out.2⟩
end Go.Proofs.Ytkipaefhnmfebaa
namespace Go.Proofs.Ytkipaefhnmfebaa
set_option linter.unusedSimpArgs false
open Go.RowKit Go.Deep

def frB (out : List FdT) (x : FdT) (j : Nat) : Bool := !((out.take j).any (fun y => nrF y x))
theorem frB_step {out : List FdT} {x : FdT} {j : Nat} (h : j < out.length) : frB out x (j + 1) = (frB out x j && !(nrF (gF out j) x)) := by
  unfold frB; rw [take_gF h, List.any_append]; simp
theorem frB_end {out : List FdT} {x : FdT} {j : Nat} (h : out.length = j) : fnX out x = if frB out x j then out ++ [x] else out := by
  unfold frB fnX; rw [List.take_of_length_le (by omega)]
  cases out.any (fun y => nrF y x) <;> rfl
set_option maxRecDepth 100000 in
set_option maxHeartbeats 8000000 in
theorem l23Finders_any (R C : Nat) (A : Option Addr) (n cp : Nat) (G : List Int) (w : World) (hr : RI w w.heap.size A n G) (hn : n = R * C) (hcp : n ≤ cp ∧ cp ≤ 9223372036854775807) (hnb : n ≤ 40000) (hR : R ≤ 40000) (hC : 1 ≤ C ∧ C ≤ 40000) :
    Calls Try.prog 48 #[.agg #[.int .i64 R, .int .i64 C, .slice A n cp]] w fun e w' => ∃ v, e = .returned v ∧ OwnF w' w.heap.size v (fnS (cdN G R C R)) ∧ Below w.heap.size w w' := by
  obtain ⟨i0, hi⟩ := info_own' info_fds
  have HI := Lib.hid (And.intro i0.bytes.le_refl hi)
  clear hi
  have HOK := Lib.hid (fun x (hx : x ∈ cdN G R C R) => (cdN_ok (by rw [hr.len, hn]) R (Nat.le_refl _) x hx).b hR hC.2)
  have HLN := Lib.hid (cdN_len (show G.length = R * C by rw [hr.len, hn]) R (Nat.le_refl _))
  have HCA := Lib.hid (l23Candidates_any R C A n cp G (w.alloc (.cells #[.int .i64 R, .int .i64 C, .slice A n cp] 41)) ((hr.below (by go_grown)).more (by simp)) hn hcp hnb hR hC)
  have HNR := Lib.hid hn
  clear hr hn
  generalize cdN G R C R = L at *
  obtain ⟨m, hm⟩ : ∃ m, L.length = m := ⟨_, rfl⟩
  have HM := Lib.hid hm
  have hmb : m ≤ 40000 := by have := HLN.out; rw [HM.out, ← HNR.out] at this; omega
  have HST : Hid (∀ w1 v, OwnF w1 (w.heap.size + 1) v L → Below (w.heap.size + 1) (w.alloc (.cells #[.int .i64 R, .int .i64 C, .slice A n cp] 41)) w1 → FiP w (w1.alloc (.cells #[] 47)) (.slice (some ⟨w1.heap.size, 0, none⟩) 0 0) v (fnS (L.take 0)) L) := Lib.hid (fun w1 v h1 h2 => by
    have hsz : w.heap.size + 1 ≤ w1.heap.size := by have := h2.size; simpa using this
    refine ⟨OwnF.empty (by omega), (h1.keep ((Below.refl _ _).alloc (Nat.le_refl _) _)).more (by omega), .inr fun e => ?_, ((by go_grown : Below w.heap.size w _).trans (h2.mono (by omega))).alloc (by omega) _⟩
    have := (h1.lt w1.heap.size e).2
    omega)
  rw [show (w.alloc (.cells #[.int .i64 R, .int .i64 C, .slice A n cp] 41)).heap.size = w.heap.size + 1 by simp] at HCA
  go_enter Try.func48, Try.ntmps48
  go_wp2_with (go_at_call 71; with_reducible refine HCA.out.mono ?_; rintro e1 w1 ⟨v, rfl, hof, hb1⟩; have HP0 := Lib.hid (HST.out _ _ hof hb1); obtain ⟨AL, cL, rfl⟩ := hof.shape; rw [hm] at HP0 ⊢; clear hof hb1)
  clear HCA HST
  go_loopw [4, 5] (fun q i wr => ∃ k : Nat, k ≤ m ∧ i = .int .i64 k ∧ Hid (FiP w wr q (.slice AL m cL) (fnS (L.take k)) L)) (fun _ i _ => m - (intOf i).toNat)
  case atStart => exact ⟨0, Nat.zero_le _, rfl, HP0⟩
  case round =>
    clear HP0
    obtain ⟨k, hk, rfl, HS⟩ := hrel
    have hzw := HS.out.bel.size
    by_cases hlt : k < m
    · have hkI : (k : Int) < (m : Int) := by omega
      obtain ⟨g, rfl, hg, x0, x1, x2, x3⟩ := fd_look HS.out.cnd HM.out hlt
      have HFX := Lib.hid (fnS_step (L := L) (k := k) (by rw [HM.out]; exact hlt))
      have HXB := Lib.hid (HOK.out (gF L k) (gF_mem (by rw [HM.out]; exact hlt)))
      have HOB := Lib.hid (fun y (hy : y ∈ fnS (L.take k)) => HOK.out y (List.mem_of_mem_take (fnS_mem hy)))
      have hol : (fnS (L.take k)).length ≤ 40000 := by have h1 := fnS_len (L.take k); rw [List.length_take] at h1; omega
      have HLK := Lib.hid (fun w' q out (h : FiP w w' q (.slice (some ⟨g, 0, none⟩) m cL) out L) => fd_look h.cnd HM.out hlt)
      generalize fnS (L.take k) = out at *
      generalize gF L k = x at *
      obtain ⟨lq, hlq⟩ : ∃ y, out.length = y := ⟨_, rfl⟩
      obtain ⟨AQ, cQ, rfl⟩ := HS.out.own.shape
      rw [hlq] at HS hol ⊢
      have HLQ := Lib.hid hlq
      have HS0 : Hid (FiP w wr (.slice AQ lq cQ) (.slice (some ⟨g, 0, none⟩) m cL) out L) := HS
      clear HS hlq x0 x1 x2 x3 hg
      go_wp2_with fail
      go_loopw [6, 7] (fun f i wi => ∃ j : Nat, j ≤ lq ∧ i = .int .i64 j ∧ f = .bool (frB out x j) ∧ Hid (FiP w wi (.slice AQ lq cQ) (.slice (some ⟨g, 0, none⟩) m cL) out L)) (fun _ i _ => lq - (intOf i).toNat)
      case atStart => exact ⟨0, Nat.zero_le _, rfl, rfl, HS0⟩
      case round =>
        clear HS0
        rename World => wi
        obtain ⟨j, hj, rfl, rfl, HS⟩ := hrel
        have hzi := HS.out.bel.size
        obtain ⟨g', hgg, hg, x0, x1, x2, x3⟩ := HLK.out _ _ _ HS.out
        cases hgg
        by_cases hjq : j < lq
        · have hjI : (j : Int) < (lq : Int) := by omega
          have HFS := Lib.hid (frB_step (x := x) (show j < out.length by rw [HLQ.out]; exact hjq))
          obtain ⟨gq, rfl, hgq, y0, y1, y2, y3⟩ := fd_look HS.out.own HLQ.out hjq
          have HYB := Lib.hid (HOB.out (gF out j) (gF_mem (by rw [HLQ.out]; exact hjq)))
          generalize gF out j = y at *
          have HNA := Lib.hid (fun w => sSameFinder_any y x w HYB.out HXB.out)
          generalize nrF y x = nr at *
          cases hfb : frB out x j with
          | false =>
            rw [hfb, Bool.false_and] at HFS
            clear hfb x0 x1 x2 x3 y0 y1 y2 y3
            go_wp2_with fail
            refine wp_region_qat [] 14 [] (by kernel_rfl) (by kernel_rfl) ?_
            intro hbc
            simp only [List.take_succ_cons, List.take_zero, List.drop_succ_cons, List.drop_zero]
            iterate 2 (first
              | refine wpQ_pass rfl ?_
              | (refine wpQ_step rfl (fun K hK => ?_)
                 go_simp
                 first
                   | (refine hK _ ?_; clear hK K)
                   | (apply Exists.intro
                      refine ⟨fun z => ?_, ?_⟩
                      focus (first | (go_at_call 72; exact HNA.out _))
                      refine hK _ ?_
                      clear hK K)))
            iterate 10 (unfold wpQ; rw [if_neg (by decide), if_neg (by simp [Region.wanted, yielded]; done)]; go_simp)
            repeat (first
              | refine wpQ_pass rfl ?_
              | (refine wpQ_step rfl (fun K hK => ?_)
                 go_simp
                 first
                   | (refine hK _ ?_; clear hK K)
                   | (apply Exists.intro
                      refine ⟨fun z => ?_, ?_⟩
                      focus (first | (go_at_call 72; exact HNA.out _))
                      refine hK _ ?_
                      clear hK K)))
            refine wpQ_nil ⟨?_, ?_⟩
            · exact rfl
            intro  w7 hb7 hF7
            clear hbc
            obtain ⟨hc7, hf7⟩ := bcell hb7
            clear hF7
            try simp only [Act.put, List.setIfInBounds_toArray, List.set_cons_succ, List.set_cons_zero]
            clear hc7 hf7
            go_wp2_with fail
            go_roundw
            case rel => exact ⟨j + 1, by omega, by go_num, by rw [HFS.out], Lib.hid (HS.out.keep hb7)⟩
            case measure => simp [intOf]; omega
          | true =>
            rw [hfb, Bool.true_and] at HFS
            clear hfb
            go_wp2_with fail
            refine wp_region_qat [] 14 [] (by kernel_rfl) (by kernel_rfl) ?_
            intro hbc
            simp only [List.take_succ_cons, List.take_zero, List.drop_succ_cons, List.drop_zero]
            repeat (first
              | refine wpQ_pass rfl ?_
              | (refine wpQ_step rfl (fun K hK => ?_)
                 go_simp
                 first
                   | (refine hK _ ?_; clear hK K)
                   | (apply Exists.intro
                      refine ⟨fun z => ?_, ?_⟩
                      focus (first | (go_at_call 72; exact HNA.out _))
                      refine hK _ ?_
                      clear hK K)))
            refine wpQ_nil ⟨?_, ?_⟩
            · exact rfl
            intro  w7 hb7 hF7
            clear hbc
            obtain ⟨hc7, hf7⟩ := bcell hb7
            clear hF7
            try simp only [Act.put, List.setIfInBounds_toArray, List.set_cons_succ, List.set_cons_zero]
            clear hc7 hf7 x0 x1 x2 x3 y0 y1 y2 y3
            go_wp2_with fail
            go_roundw
            case rel => exact ⟨j + 1, by omega, by go_num, by rw [HFS.out], Lib.hid (HS.out.keep hb7)⟩
            case measure => simp [intOf]; omega
        · obtain rfl : j = lq := by omega
          have HFE := Lib.hid (frB_end (x := x) HLQ.out)
          cases hfb : frB out x j with
          | false =>
            rw [hfb] at HFE
            have HNX : Hid (fnS (L.take (k + 1)) = out) := Lib.hid (by rw [HFX.out, HFE.out]; rfl)
            clear hfb
            go_wp2_with fail
            go_roundw
            case rel => exact ⟨k + 1, by omega, by go_num, Lib.hid (HS.out.to HNX.out.symm)⟩
            case measure => simp [intOf]; omega
          | true =>
            rw [hfb] at HFE
            have HNX : Hid (fnS (L.take (k + 1)) = out ++ [x]) := Lib.hid (by rw [HFX.out, HFE.out]; rfl)
            have HOA := Lib.hid HS.out.own
            clear hfb
            go_wp2_with (at_builtin; refine wpList_append_own_at _ rfl _ _ 43 rfl w.heap.size 47 i0 (.agg #[.int .i64 0, .int .i64 0, .int .i64 0, .int .i64 0]) 4 32 Try.underlying43 HI.out.2.1 HI.out.2.2.1 HI.out.2.2.2.1 HI.out.2.2.2.2 rfl (by decide) (.slice AQ j cQ) j (out.flatMap fdC) rfl (by have h := OwnF.alloc HOA.out (.cells (fdC x).toArray 47); rw [HLQ.out] at h; exact h) ⟨wi.heap.size, 0, none⟩ 1 1 (fdC x) rfl rfl (news_runs _ _ _ rfl) (fdC_ok _) (by unfold maxLen; omega) (by omega) (by simp; omega) ?_; intro va wa hown hg _ hat; have HNF := Lib.hid (HS.out.app (OwnF.snoc (by rw [HLQ.out]; exact hown)) hg hat); clear hown hg hat)
            go_roundw
            case rel => exact ⟨k + 1, by omega, by go_num, Lib.hid (HNF.out.to HNX.out.symm)⟩
            case measure => simp [intOf]; omega
    · have hkI : ¬ (k : Int) < (m : Int) := by omega
      have HF : Hid (OwnF wr w.heap.size u4 (fnS L) ∧ Below w.heap.size w wr) := Lib.hid (by
        have e : fnS (L.take k) = fnS L := by rw [List.take_of_length_le (by rw [HM.out]; omega)]
        rw [← e]
        exact ⟨HS.out.own, HS.out.bel⟩)
      clear HS
      go_wp2_with fail
      go_ret
      exact ⟨_, rfl, HF.out.1, HF.out.2⟩
end Go.Proofs.Ytkipaefhnmfebaa
