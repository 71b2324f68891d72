/-
  Contracts of chapter 23: the program's columns of a grid, whose sections are found once.
-/
import Derived.Test.YtkipaefhnmfebaaMfc
import Derived.Test.YtkipaefhnmfebaaMfa
import Derived.Test.YtkipaefhnmfebaaFrame
import Derived.Test.YtkipaefhnmfebaaHold
import Derived.Maps.AppendAt
import Derived.Deep.AppendLies
import Derived.Deep.RegionLaw
import Derived.Test.YtkipaefhnmfebaaC21
namespace Go.Proofs.Ytkipaefhnmfebaa
set_option linter.unusedSimpArgs false
open Go.RowKit Go.Deep

theorem OwnT.ne {α : Type} {f : α → List Value} {sz e b t : Nat} {w : World} {B : Nat} {v : Value} {L : List α} {cs : Array Value} (h : OwnT e sz f w B v L) (hb : w.heap[b]? = some (.cells cs t (0, 0))) (ht : t ≠ e) : ∀ g, v.ownBlock = some g → g ≠ b := by
  intro g hg hgb
  rcases h.2 with ⟨rfl, _⟩ | ⟨g', cap, cur, rfl, hB, hh, _⟩
  · simp [Value.ownBlock] at hg
  · simp only [Value.ownBlock, Option.some.injEq] at hg
    subst hg; subst hgb
    rw [hb] at hh
    simp at hh
    exact ht hh.2
/-- What grows is not the row of another type. -/
theorem OwnT.grownN {α β : Type} {f : α → List Value} {f' : β → List Value} {sz sz' e e' : Nat} {w w' : World} {B B' : Nat} {v v' : Value} {L : List α} {L' : List β} {o : Obj} (h : OwnT e sz f w B v L) (h' : OwnT e' sz' f' w B' v' L') (hg : (w.alloc o).grownBy w' v'.ownBlock) (ht : e ≠ e') : OwnT e sz f w' B v L := by
  refine ⟨h.1, ?_⟩
  rcases h.2 with hn | ⟨g, cap, cur, rfl, hB, hh, hr⟩
  · exact .inl hn
  · exact .inr ⟨g, cap, cur, rfl, hB, grown1 h' hg hh ht, hr⟩
/-- The list of runs, and the sections found so far. -/
structure ScP (w wr : World) (vL q : Value) (L : List RnT) (k : Nat) : Prop where
  own : OwnS wr w.heap.size q (secS L k)
  run : OwnR wr w.heap.size vL L
  bel : Below w.heap.size w wr
theorem ScP.keep {w wr w' : World} {vL q : Value} {L : List RnT} {k : Nat} (h : ScP w wr vL q L k) (hb : Below wr.heap.size wr w') : ScP w w' vL q L k :=
  ⟨OwnT.keep h.own hb, OwnT.keep h.run.t hb, h.bel.trans (hb.mono h.bel.size)⟩
theorem ScP.put {w wr : World} {vL q : Value} {L : List RnT} {k b j : Nat} {xs : List Int} {u : Value} (h : ScP w wr vL q L k) (hr : RowAt wr b 131 xs) (hB : w.heap.size ≤ b) : ScP w (wr.setCell ⟨b, j, none⟩ u) vL q L k :=
  ⟨OwnT.blk h.own fun g hg => Below.heap_setCell _ _ _ _ (OwnT.ne h.own hr (by decide) g hg), OwnT.blk h.run.t fun g hg => Below.heap_setCell _ _ _ _ (OwnT.ne h.run.t hr (by decide) g hg), h.bel.setCell (p := ⟨b, j, none⟩) hB _⟩
theorem ScP.to {w wr : World} {vL q : Value} {L : List RnT} {k k' : Nat} (h : ScP w wr vL q L k) (e : secS L k' = secS L k) : ScP w wr vL q L k' := ⟨by rw [e]; exact h.own, h.run, h.bel⟩
theorem ScP.app {w wr wa : World} {vL q va : Value} {L : List RnT} {k : Nat} {t : SecT} {o : Obj} (h : ScP w wr vL q L k) (hk : secS L (k + 1) = secS L k ++ [t]) (ho : OwnS wa w.heap.size va (secS L k ++ [t])) (hg : (wr.alloc o).grownBy wa q.ownBlock) : ScP w wa vL va L (k + 1) := by
  refine ⟨by rw [hk]; exact ho, OwnT.grownN h.run.t h.own hg (by decide), (h.bel.alloc h.bel.size _).grown hg (by have := h.bel.size; rw [World.size_alloc]; omega) fun j hj => (h.own.lt j hj).1⟩
def psum (a b c d e : Nat) : Nat → Nat
  | 0 => 0
  | 1 => a
  | 2 => a + b
  | 3 => a + b + c
  | 4 => a + b + c + d
  | _ => a + b + c + d + e
set_option maxRecDepth 100000 in
set_option maxHeartbeats 8000000 in
theorem sections_any (A : Option Addr) (n cp : Nat) (xs : List Int) (w : World) (hr : RI w w.heap.size A n xs) (hn : n ≤ 40000) :
    Calls Try.prog 79 #[.slice A n cp] w fun e w' => ∃ v, e = .returned v ∧ OwnS w' w.heap.size v (secs xs) ∧ Below w.heap.size w w' := by
  obtain ⟨i0, hi⟩ := info_own' info_secs
  have HI := Lib.hid (And.intro i0.bytes.le_refl hi)
  clear hi
  have HR := Lib.hid (fun cp => runsOf_any A n cp xs w hr (by omega))
  have HSX : Hid (secs xs = secS (rnS xs n) (rnS xs n).length) := Lib.hid (by unfold secs; rw [hr.len])
  have HOK := Lib.hid (rnS_ok xs n)
  have HLE := Lib.hid (fun k (hk : k < (rnS xs n).length) => rnS_mem xs n _ (gR_mem hk))
  have hln := rnS_len xs n
  clear hr
  generalize rnS xs n = L at *
  obtain ⟨m, hm⟩ : ∃ m, L.length = m := ⟨_, rfl⟩
  rw [hm] at HSX HLE hln
  have HM := Lib.hid hm
  clear hm
  go_enter Try.func79, Try.ntmps79
  go_wp2_with (go_at_call 104; refine (HR.out _).mono ?_; rintro e1 w1 ⟨vL, rfl, hown, hb1⟩; have HP0 := Lib.hid (show ScP w (w1.alloc (.cells #[] 117)) vL (.slice (some ⟨w1.heap.size, 0, none⟩) 0 0) L 0 from ⟨OwnT.empty hb1.size, OwnT.keep hown.t (by go_grown), hb1.alloc hb1.size _⟩); have hz1 := hb1.size; obtain ⟨AL, cL, rfl⟩ := hown.t.shape; rw [HM.out] at HP0 ⊢; clear hown hb1)
  clear HR
  go_loopw [4, 5] (fun q i wr => ∃ k : Nat, k ≤ m ∧ i = .int .i64 k ∧ Hid (ScP w wr (.slice AL m cL) q L k)) (fun _ i _ => m - (intOf i).toNat)
  case atStart => exact ⟨0, Nat.zero_le _, rfl, HP0⟩
  case round =>
    clear HP0
    obtain ⟨k, hk, rfl, HS⟩ := hrel
    rename World => wr
    by_cases hlt : k + 5 ≤ m
    · obtain ⟨l0, hl0⟩ : ∃ x, (gR L k).l = x := ⟨_, rfl⟩
      obtain ⟨l1, hl1⟩ : ∃ x, (gR L (k + 1)).l = x := ⟨_, rfl⟩
      obtain ⟨l2, hl2⟩ : ∃ x, (gR L (k + 2)).l = x := ⟨_, rfl⟩
      obtain ⟨l3, hl3⟩ : ∃ x, (gR L (k + 3)).l = x := ⟨_, rfl⟩
      obtain ⟨l4, hl4⟩ : ∃ x, (gR L (k + 4)).l = x := ⟨_, rfl⟩
      have b0 : l0 ≤ 40000 := by have := HLE.out k (by omega); omega
      have b1 : l1 ≤ 40000 := by have := HLE.out (k + 1) (by omega); omega
      have b2 : l2 ≤ 40000 := by have := HLE.out (k + 2) (by omega); omega
      have b3 : l3 ≤ 40000 := by have := HLE.out (k + 3) (by omega); omega
      have b4 : l4 ≤ 40000 := by have := HLE.out (k + 4) (by omega); omega
      have HSEC : Hid (secAt L k = ((gR L k).d && secB l0 l1 l2 l3 l4)) := Lib.hid (by rw [secAt_near (by rw [HM.out]; exact hlt), ← hl0, ← hl1, ← hl2, ← hl3, ← hl4]; rfl)
      have HSV : Hid (secV L k = ⟨(gR L k).s, psum l0 l1 l2 l3 l4 5, gR L (k + 2)⟩) := Lib.hid (by unfold secV sum5; rw [hl0, hl1, hl2, hl3, hl4]; rfl)
      have HCL : Hid (∀ (wx : World) (q : Value) (k' : Nat), ScP w wx (.slice AL m cL) q L k' → ∃ g, AL = some ⟨g, 0, none⟩ ∧ g < wx.heap.size ∧ ∀ j, j < 5 → wx.cell? ⟨g, (k + j) * 3, none⟩ = some (.int .i64 ((gR L (k + j)).s : Nat)) ∧ wx.cell? ⟨g, (k + j) * 3 + 1, none⟩ = some (.int .i64 ((gR L (k + j)).l : Nat)) ∧ wx.cell? ⟨g, (k + j) * 3 + 2, none⟩ = some (.bool (gR L (k + j)).d)) := Lib.hid (by
        intro wx q k' h
        obtain ⟨g, c, e, -, hg, hc⟩ := h.run.look (by rw [HM.out]; omega)
        simp only [Value.slice.injEq] at e
        exact ⟨g, e.1, hg, fun j hj => hc (k + j) (by rw [HM.out]; omega)⟩)
      have HX : Hid (∀ j, j < 5 → ∃ x : Nat, nth [(l0 : Int), l1, l2, l3, l4] j = x ∧ (gR L (k + j)).l = x ∧ psum l0 l1 l2 l3 l4 (j + 1) = psum l0 l1 l2 l3 l4 j + x ∧ psum l0 l1 l2 l3 l4 j ≤ 200000 ∧ x ≤ 40000) := Lib.hid (by
        intro j hj
        have hcs : j = 0 ∨ j = 1 ∨ j = 2 ∨ j = 3 ∨ j = 4 := by omega
        rcases hcs with rfl | rfl | rfl | rfl | rfl
        · exact ⟨l0, rfl, hl0, by simp [psum], by simp [psum], b0⟩
        · exact ⟨l1, rfl, hl1, by simp [psum], by simp [psum]; omega, b1⟩
        · exact ⟨l2, rfl, hl2, by simp [psum], by simp [psum]; omega, b2⟩
        · exact ⟨l3, rfl, hl3, by simp [psum], by simp [psum]; omega, b3⟩
        · exact ⟨l4, rfl, hl4, by simp [psum], by simp [psum]; omega, b4⟩)
      have h5m : (k : Int) + 5 ≤ (m : Int) := by omega
      have hzw := HS.out.bel.size
      have HIS := Lib.hid (fun w => isSection_any l0 l1 l2 l3 l4 w (by omega) (by omega) (by omega) (by omega) (by omega))
      have HR0 : Hid (RowAt (wr.alloc (.cells #[.int .i64 0, .int .i64 0, .int .i64 0, .int .i64 0, .int .i64 0] 131)) wr.heap.size 131 [0, 0, 0, 0, 0]) := Lib.hid (RowAt.made rfl)
      have HS0 := Lib.hid (HS.out.keep ((Below.refl _ _).alloc (Nat.le_refl _) (.cells #[.int .i64 0, .int .i64 0, .int .i64 0, .int .i64 0, .int .i64 0] 131)))
      have HSS := Lib.hid (secS_len L k)
      clear hl0 hl1 hl2 hl3 hl4 HS
      go_wp2_with fail
      go_loopw [7, 19] (fun s i wr' => ∃ j : Nat, j ≤ 5 ∧ i = .int .i64 j ∧ s = .int .i64 (psum l0 l1 l2 l3 l4 j : Nat) ∧ Hid (ScP w wr' (.slice AL m cL) u4 L k) ∧ Hid (RowAt wr' wr.heap.size 131 ([(l0 : Int), l1, l2, l3, l4].take j ++ [0, 0, 0, 0, 0].drop j))) (fun _ i _ => 5 - (intOf i).toNat)
      case atStart => exact ⟨0, by omega, rfl, rfl, HS0, HR0⟩
      case round =>
        clear HS0 HR0
        obtain ⟨j, hj, rfl, rfl, HSJ, HRJ⟩ := hrel
        by_cases hj5 : j < 5
        · obtain ⟨x, hnx, hgx, hps, hpb, hxb⟩ := HX.out j hj5
          obtain ⟨g, rfl, hg, hcg⟩ := HCL.out _ _ _ HSJ.out
          obtain ⟨-, hcx, -⟩ := hcg j hj5
          rw [hgx] at hcx
          have HT : Hid ((([(l0 : Int), l1, l2, l3, l4].take j ++ [0, 0, 0, 0, 0].drop j).set j (x : Nat)) = [(l0 : Int), l1, l2, l3, l4].take (j + 1) ++ [0, 0, 0, 0, 0].drop (j + 1)) := Lib.hid (by rw [← hnx]; exact set_mix rfl (by simpa using hj5))
          have hlenr : ([(l0 : Int), l1, l2, l3, l4].take j ++ [0, 0, 0, 0, 0].drop j).length = 5 := len_mix (xs := [0, 0, 0, 0, 0]) (ys := [(l0 : Int), l1, l2, l3, l4]) rfl (by simpa using hj)
          have hcr := HRJ.out.cell (k := j) (by rw [hlenr]; exact hj5)
          have hfr := HRJ.out.free j
          have hkm : k + j < m := by omega
          have hrl := HRJ.out.lt
          generalize nth ([(l0 : Int), l1, l2, l3, l4].take j ++ [0, 0, 0, 0, 0].drop j) j = old at hcr
          clear hcg hnx hgx hlenr
          go_wp2_with fail
          go_roundw
          case rel => exact ⟨j + 1, by omega, by go_num, by rw [hps]; go_num, Lib.hid (HSJ.out.put HRJ.out hzw), Lib.hid ((HRJ.out.set (k := j) (x : Nat)).to HT.out)⟩
          case measure => simp [intOf]; omega
        · obtain rfl : j = 5 := by omega
          rename World => wi
          have HR5 : Hid (RowAt wi wr.heap.size 131 [(l0 : Int), l1, l2, l3, l4]) := Lib.hid HRJ.out
          have c0 : wi.cell? ⟨wr.heap.size, 0, none⟩ = some (.int .i64 (l0 : Nat)) := HR5.out.cell (k := 0) (by simp)
          have c1 : wi.cell? ⟨wr.heap.size, 1, none⟩ = some (.int .i64 (l1 : Nat)) := HR5.out.cell (k := 1) (by simp)
          have c2 : wi.cell? ⟨wr.heap.size, 2, none⟩ = some (.int .i64 (l2 : Nat)) := HR5.out.cell (k := 2) (by simp)
          have c3 : wi.cell? ⟨wr.heap.size, 3, none⟩ = some (.int .i64 (l3 : Nat)) := HR5.out.cell (k := 3) (by simp)
          have c4 : wi.cell? ⟨wr.heap.size, 4, none⟩ = some (.int .i64 (l4 : Nat)) := HR5.out.cell (k := 4) (by simp)
          obtain ⟨g, rfl, hg, hcg⟩ := HCL.out _ _ _ HSJ.out
          have hks : wi.cell? ⟨g, k * 3, none⟩ = some (.int .i64 ((gR L k).s : Nat)) := (hcg 0 (by omega)).1
          have hkd : wi.cell? ⟨g, k * 3 + 2, none⟩ = some (.bool (gR L k).d) := (hcg 0 (by omega)).2.2
          have hkm : k < m := by omega
          have hkm2 : k + 2 < m := by omega
          have hzi := HSJ.out.bel.size
          have hrl := HR5.out.lt
          clear hcg HX HRJ
          obtain ⟨dk, hdk⟩ : ∃ d, (gR L k).d = d := ⟨_, rfl⟩
          obtain ⟨sb, hsb⟩ : ∃ d, secB l0 l1 l2 l3 l4 = d := ⟨_, rfl⟩
          rw [hdk] at HSEC hkd
          rw [hsb] at HSEC HIS
          obtain ⟨S, hS⟩ : ∃ S, psum l0 l1 l2 l3 l4 5 = S := ⟨_, rfl⟩
          rw [hS] at HSV ⊢
          clear hdk hsb hS
          cases dk with
          | false =>
            have HN := Lib.hid (secS_no HSEC.out)
            go_wp2_with fail
            go_roundw
            case rel => exact ⟨k + 1, by omega, by go_num, Lib.hid (HSJ.out.to HN.out)⟩
            case measure => simp [intOf]; omega
          | true =>
            cases sb with
            | false =>
              have HN := Lib.hid (secS_no HSEC.out)
              clear hks
              go_wp2_with (go_at_call 105; refine (HIS.out _).mono ?_; rintro e6 w6 ⟨rfl, hb6⟩; have HS6 := Lib.hid (HSJ.out.keep hb6); clear hb6)
              go_roundw
              case rel => exact ⟨k + 1, by omega, by go_num, Lib.hid (HS6.out.to HN.out)⟩
              case measure => simp [intOf]; omega
            | true =>
              have HN := Lib.hid (secS_yes HSEC.out)
              rw [HSV.out] at HN
              obtain ⟨s0, hs0⟩ : ∃ x, (gR L k).s = x := ⟨_, rfl⟩
              obtain ⟨r2, hr2⟩ : ∃ x, gR L (k + 2) = x := ⟨_, rfl⟩
              rw [hs0] at HN
              rw [hr2] at HN
              obtain ⟨J, hJ⟩ : ∃ J, (secS L k).length = J := ⟨_, rfl⟩
              have hJb : J ≤ 40000 := by have := HSS.out; omega
              have HJ := Lib.hid hJ
              have HE := Lib.hid (And.intro hs0 hr2)
              clear hks hs0 hr2 hJ
              go_wp2_with (go_at_call 105; refine (HIS.out _).mono ?_; rintro e6 w6 ⟨rfl, hb6⟩; have HS6 := Lib.hid (HSJ.out.keep hb6); have hz6 := HS6.out.bel.size; obtain ⟨g6, hg6, hgl6, hc6⟩ := HCL.out _ _ _ HS6.out; have hks : w6.cell? ⟨g6, k * 3, none⟩ = some (.int .i64 ((gR L k).s : Nat)) := (hc6 0 (by omega)).1; obtain ⟨hk2s, hk2l, hk2d⟩ := hc6 2 (by omega); cases hg6; rw [HE.out.1] at hks; rw [HE.out.2] at hk2s hk2l hk2d; clear hb6 hc6)
              clear hkd c0 c1 c2 c3 c4
              have hwk : IntKind.i64.wrap ((k : Int) + 2) = (k : Int) + 2 := wr64s (by omega)
              have hki : (k : Int) + 2 < (m : Int) := by omega
              have htn : ((k : Int) + 2).toNat = k + 2 := by omega
              have hk0 : (0 : Int) ≤ (k : Int) + 2 := by omega
              go_wp2_with fail
              go_region_law (refine step_append_lies _ (by rfl) _ _ 112 (by rfl) w.heap.size 117 i0 (.agg #[.int .i64 0, .int .i64 0, .int .i64 0, .int .i64 0, .bool false]) 5 40 Try.underlying112 HI.out.2.1 HI.out.2.2.1 HI.out.2.2.2.1 HI.out.2.2.2.2 rfl (by decide) u4 J _ (by rfl) (by have := OwnT.alloc HS6.out.own (.cells (secC ⟨s0, S, r2⟩).toArray 117); rw [HJ.out] at this; exact this) ⟨w6.heap.size, 0, none⟩ 1 1 (secC ⟨s0, S, r2⟩) (by rfl) (by rfl) (news_runs _ _ _ rfl) (secC_ok _) (by decide) (by unfold maxLen; omega) (by omega) (by simp; omega) (w6.heap.size + 1) (by simp) ?_; intro gg cap wa hoa0 hga hat hlt'; have HFIN : Hid (ScP w wa (.slice (some ⟨g, 0, none⟩) m cL) (.slice (some ⟨gg, 0, none⟩) (J + 1) cap) L (k + 1)) := Lib.hid ((HS6.out.keep (Below.refl _ _).drew).app HN.out (OwnT.snoc (by rw [HJ.out]; exact hoa0)) hga); clear hoa0 hga hat hlt')
              all_goals
                go_wp2_with fail
                go_roundw
                case rel => exact ⟨k + 1, by omega, by go_num, HFIN⟩
                case measure => simp [intOf]; omega
    · have h5m : decide ((k : Int) + 5 ≤ (m : Int)) = false := decide_eq_false (by omega)
      have HF : Hid (OwnS wr w.heap.size u4 (secs xs) ∧ Below w.heap.size w wr) := Lib.hid ⟨by rw [HSX.out]; rw [secS_top (k := k) (by rw [HM.out]; omega) m hk]; exact HS.out.own, HS.out.bel⟩
      clear HS
      go_wp2_with fail
      go_ret
      exact ⟨_, rfl, HF.out.1, HF.out.2⟩
end Go.Proofs.Ytkipaefhnmfebaa
namespace Go.Proofs.Ytkipaefhnmfebaa
set_option linter.unusedSimpArgs false
open Go.RowKit

theorem lnC_take {G : List Int} {R C c k : Nat} (h : k < R) : (lnC G R C c).take (k + 1) = (lnC G R C c).take k ++ [nth G (k * C + c)] := by
  rw [take_nth (by rw [lnC_len]; exact h)]
  congr 2
  unfold lnC
  rw [nth_lt (by simpa using h)]
  simp
theorem col_lt {R C k c : Nat} (hk : k < R) (hc : c < C) : k * C + c < R * C := by
  have := Nat.mul_le_mul_right C (show k + 1 ≤ R from hk)
  rw [Nat.succ_mul] at this
  omega
set_option maxRecDepth 100000 in
set_option maxHeartbeats 4000000 in
theorem l23Column_any (R C c : Nat) (A : Option Addr) (n cp : Nat) (G : List Int) (w : World) (hr : RI w w.heap.size A n G) (hn : n = R * C) (hR : R ≤ 40000) (hC : C ≤ 40000) (hc : c < C) (hnb : n ≤ 40000) :
    Calls Try.prog 90 #[.agg #[.int .i64 R, .int .i64 C, .slice A n cp], .int .i64 c] w fun e w' => ∃ v, e = .returned v ∧ Own w' w.heap.size v (lnC G R C c) ∧ Below w.heap.size w w' := by
  obtain ⟨i0, hi⟩ := info_own' info_i64s
  have HI := Lib.hid (And.intro i0.bytes.le_refl hi)
  clear hi
  have HR := Lib.hid hr
  have HN := Lib.hid hn
  clear hr hn
  go_enter Try.func90, Try.ntmps90
  go_wp2_with fail
  have HS0 : Hid (Own ((w.alloc (.cells #[.int .i64 R, .int .i64 C, .slice A n cp] 41)).alloc (.cells #[] 2)) w.heap.size (.slice (some ⟨w.heap.size + 1, 0, none⟩) 0 0) ((lnC G R C c).take 0) ∧ ((w.alloc (.cells #[.int .i64 R, .int .i64 C, .slice A n cp] 41)).alloc (.cells #[] 2)).heap[w.heap.size]? = some (.cells #[.int .i64 R, .int .i64 C, .slice A n cp] 41 (0, 0)) ∧ Below w.heap.size w ((w.alloc (.cells #[.int .i64 R, .int .i64 C, .slice A n cp] 41)).alloc (.cells #[] 2))) := Lib.hid (by
    refine ⟨?_, by (repeat (first | (with_reducible exact heap_alloc_new _ _) | (rw [heap_drew1]) | (rw [heap_drewN1]) | (rw [Below.heap_setCell _ _ _ _ (by first | omega | (simp; done) | (simp; omega))]) | (rw [Below.heap_alloc _ _ _ (by first | omega | (simp; done) | (simp; omega))]) | (exact heap_alloc_at (by first | omega | (simp; done) | (simp; omega))))), by go_grown⟩
    have := World.ownsRow_made (e := 2) (size := 1) (base := w.heap.size) (w.alloc (.cells #[.int .i64 R, .int .i64 C, .slice A n cp] 41)) #[] 0 (by simp) (by unfold maxLen; omega) rfl
    simpa [Own] using this)
  go_loopw [5, 6] (fun q i wr => ∃ k : Nat, k ≤ R ∧ i = .int .i64 k ∧ Hid (Own wr w.heap.size q ((lnC G R C c).take k) ∧ wr.heap[w.heap.size]? = some (.cells #[.int .i64 R, .int .i64 C, .slice A n cp] 41 (0, 0)) ∧ Below w.heap.size w wr)) (fun _ i _ => R - (intOf i).toNat)
  case atStart => exact ⟨0, Nat.zero_le _, rfl, HS0⟩
  case round =>
    clear HS0
    obtain ⟨k, hk, rfl, HS⟩ := hrel
    have hz := lt_of_block HS.out.2.1
    obtain ⟨c0, c1, c2, -⟩ := blk3 HS.out.2.1
    by_cases hlt : k < R
    · have hkR : (k : Int) < (R : Int) := by omega
      have hql := col_lt hlt hc
      obtain ⟨kC, hkC⟩ : ∃ x, k * C = x := ⟨_, rfl⟩
      have he : (k : Int) * (C : Int) = (kC : Nat) := by rw [← hkC]; simp
      have hqn : kC + c < n := by rw [HN.out, ← hkC]; exact hql
      obtain ⟨b, o, rfl, hb, hx⟩ := (HR.out.below HS.out.2.2).cells (by omega)
      have hcx := hx (kC + c) hqn
      have HT : Hid ((lnC G R C c).take (k + 1) = (lnC G R C c).take k ++ [nth G (kC + c)]) := Lib.hid (by rw [lnC_take hlt, hkC])
      have HO := Lib.hid HS.out.1
      have HZ := Lib.hid HS.out.2.2.size
      have hLE : ((lnC G R C c).take k).length ≤ 40000 := by rw [List.length_take, lnC_len]; omega
      have hbw : b < wr.heap.size := by have := HZ.out; omega
      obtain ⟨A', c', rfl, -⟩ := HO.out.shape
      generalize nth G (kC + c) = x at *
      clear hx hkC hql
      go_wp2_with (at_builtin; refine wpList_append_own _ rfl _ _ 22 rfl (w.heap.size) 2 i0 (.int .i64 0) 1 8 Try.underlying22 HI.out.2.1 HI.out.2.2.1 HI.out.2.2.2.1 HI.out.2.2.2.2 rfl (by decide) _ _ _ rfl (Own.alloc HO.out _) ⟨wr.heap.size, 0, none⟩ 1 1 [.int .i64 (x)] rfl rfl (cell_one_new _ _ _) (one_ok _) (own_max HO.out (by omega)) (own_bytes HO.out (by omega)) (own_base HZ.out) ?_; intro va wa howna hgrowa _; have hoa := Lib.hid (Own.snoc howna); have hga := Lib.hid hgrowa; clear howna hgrowa)
      go_roundw
      case rel => exact ⟨k + 1, by omega, by go_num, Lib.hid ⟨hoa.out.to HT.out.symm, grown1 HO.out hga.out HS.out.2.1 (by decide), HO.out.below_grown HS.out.2.2 HZ.out hga.out⟩⟩
      case measure => simp [intOf]; omega
    · have hkR : ¬ (k : Int) < (R : Int) := by omega
      have HF : Hid (Own wr w.heap.size u5 (lnC G R C c) ∧ Below w.heap.size w wr) := Lib.hid ⟨HS.out.1.to (List.take_of_length_le (by rw [lnC_len]; omega)), HS.out.2.2⟩
      clear HS
      go_wp2_with fail
      go_ret
      exact ⟨_, rfl, HF.out.1, HF.out.2⟩
end Go.Proofs.Ytkipaefhnmfebaa
namespace Go.Proofs.Ytkipaefhnmfebaa
set_option linter.unusedSimpArgs false
open Go.RowKit Go.Deep

theorem OwnS.shape {w : World} {B : Nat} {v : Value} {L : List SecT} (h : OwnS w B v L) : ∃ A c, v = .slice A L.length c := OwnT.shape h
theorem make_anyS {n : Nat} (t e : TypeId) (i : TypeInfo) (z : Value) (ht : Try.prog.underlying t = some (.slice e)) (hi : Try.prog.info? e = some i) (hz : i.zero = some z) (h1 : i.size = 1) (h8 : i.bytes ≤ 24) (hn : n ≤ 1000000) (hc : z.cells = #[z]) (w : World) :
    (Instr.makeSlice t (.int .i64 n) (.int .i64 n)).run Try.prog w = .ok (.slice (some ⟨w.heap.size, 0, none⟩) n n) (w.alloc (.cells (List.replicate n z).toArray e)) := by
  have h9 : i.bytes * n ≤ 24000000 := Nat.le_trans (Nat.mul_le_mul h8 hn) (by omega)
  have h := run_makeSlice (P := Try.prog) w t e i z ht hi hz .i64 .i64 (n : Int) (n : Int) (by omega) (Int.le_refl _) (by rw [Int.toNat_natCast, h1]; omega) (by rw [← Int.natCast_mul]; omega) (by omega)
  have e : madeCells #[z] n = (List.replicate n z).toArray := by
    apply Array.ext'
    rw [toList_madeCells_one]
  rw [h, Int.toNat_natCast, h1, Nat.mul_one, hc, e]
theorem info_bool : (Try.prog.info? 4).map (fun i => (i.zero, i.size, i.bytes)) = some (some (.bool false), 1, 1) := by kernel_rfl
theorem info_secS : (Try.prog.info? 112).map (fun i => (i.zero, i.size, i.bytes)) = some (some (.slice none 0 0), 1, 24) := by kernel_rfl
def SameT (t0 : Nat) (w w' : World) : Prop := ∀ (b t : Nat) (cs : Array Value), t ≠ t0 → w.heap[b]? = some (.cells cs t (0, 0)) → w'.heap[b]? = some (.cells cs t (0, 0))
/-- All lies as it lay but cells of truth values and of slices of sections. -/
def SameD (w w' : World) : Prop := ∀ (b t : Nat) (cs : Array Value), t ≠ 4 → t ≠ 112 → w.heap[b]? = some (.cells cs t (0, 0)) → w'.heap[b]? = some (.cells cs t (0, 0))
theorem sameT_below {t0 : Nat} {w w' : World} (hb : Below w.heap.size w w') : SameT t0 w w' := fun b _ _ _ h => (hb.block b (lt_of_block h)).trans h
theorem sameD_below {w w' : World} (hb : Below w.heap.size w w') : SameD w w' := fun b _ _ _ _ h => (hb.block b (lt_of_block h)).trans h
theorem SameD.trans {a b c : World} (h : SameD a b) (k : SameD b c) : SameD a c := fun x t cs h1 h2 h3 => k x t cs h1 h2 (h x t cs h1 h2 h3)
theorem OwnT.sameT {α : Type} {f : α → List Value} {sz e t0 : Nat} {w w' : World} {B : Nat} {v : Value} {L : List α} (h : OwnT e sz f w B v L) (hs : SameT t0 w w') (ht : e ≠ t0) : OwnT e sz f w' B v L := by
  refine ⟨h.1, ?_⟩
  rcases h.2 with h' | ⟨g, cap, cur, rfl, hB, hg, hr⟩
  · exact .inl h'
  · exact .inr ⟨g, cap, cur, rfl, hB, hs _ _ _ ht hg, hr⟩
theorem OwnT.sameD {α : Type} {f : α → List Value} {sz e : Nat} {w w' : World} {B : Nat} {v : Value} {L : List α} (h : OwnT e sz f w B v L) (hs : SameD w w') (ht : e ≠ 4) (ht' : e ≠ 112) : OwnT e sz f w' B v L := by
  refine ⟨h.1, ?_⟩
  rcases h.2 with h' | ⟨g, cap, cur, rfl, hB, hg, hr⟩
  · exact .inl h'
  · exact .inr ⟨g, cap, cur, rfl, hB, hs _ _ _ ht ht' hg, hr⟩
/-- What the memo of a grid's columns holds. -/
structure ColP (w0 : World) (R C : Nat) (A : Option Addr) (n cp : Nat) (G : List Int) (bD bG bF gd gf : Nat) (W : World) : Prop where
  bel : Below w0.heap.size w0 W
  le : w0.heap.size ≤ gd ∧ w0.heap.size ≤ gf
  gb : W.heap[bG]? = some (.cells #[.int .i64 R, .int .i64 C, .slice A n cp] 41 (0, 0))
  db : W.heap[bD]? = some (.cells #[.slice (some ⟨gd, 0, none⟩) C C] 129 (0, 0))
  fb : W.heap[bF]? = some (.cells #[.slice (some ⟨gf, 0, none⟩) C C] 130 (0, 0))
  ex : ∃ (dn : Nat → Bool) (fv : Nat → Value), W.heap[gd]? = some (.cells ((List.range C).map (fun i => Value.bool (dn i))).toArray 4 (0, 0)) ∧ W.heap[gf]? = some (.cells ((List.range C).map fv).toArray 112 (0, 0)) ∧ ∀ c, c < C → dn c = true → OwnS W w0.heap.size (fv c) (secs (lnC G R C c))
section
variable {w0 W W' : World} {R C n cp bD bG bF gd gf : Nat} {A : Option Addr} {G : List Int}
theorem ColP.sameT {t0 : Nat} (h : ColP w0 R C A n cp G bD bG bF gd gf W) (hs : SameT t0 W W') (hb : Below w0.heap.size w0 W') (h1 : 41 ≠ t0) (h2 : 129 ≠ t0) (h3 : 130 ≠ t0) (h4 : 4 ≠ t0) (h5 : 112 ≠ t0) (h6 : 117 ≠ t0) :
    ColP w0 R C A n cp G bD bG bF gd gf W' := by
  obtain ⟨dn, fv, hd, hf, ho⟩ := h.ex
  exact ⟨hb, h.le, hs _ _ _ h1 h.gb, hs _ _ _ h2 h.db, hs _ _ _ h3 h.fb, dn, fv, hs _ _ _ h4 hd, hs _ _ _ h5 hf, fun c hc hdn => OwnT.sameT (ho c hc hdn) hs h6⟩
theorem ColP.keep (h : ColP w0 R C A n cp G bD bG bF gd gf W) (hb : Below W.heap.size W W') : ColP w0 R C A n cp G bD bG bF gd gf W' :=
  h.sameT (t0 := 47) (sameT_below hb) (h.bel.trans (hb.mono h.bel.size)) (by decide) (by decide) (by decide) (by decide) (by decide) (by decide)
theorem mapR_set {α : Type} (f : Nat → α) (u : α) (c N : Nat) : ((List.range N).map f).set c u = (List.range N).map (fun i => if i = c then u else f i) := by
  apply List.ext_getElem?
  intro i
  rw [List.getElem?_set, List.getElem?_map, List.getElem?_map]
  by_cases h : c = i
  · subst h
    by_cases hl : c < N
    · simp [hl]
    · simp [hl]
  · rw [if_neg h]
    by_cases hl : i < N
    · simp [hl, show i ≠ c from fun e => h e.symm]
    · simp [hl]
theorem mapR_get {α : Type} (f : Nat → α) {c N : Nat} (h : c < N) : ((List.range N).map f).toArray[c]? = some (f c) := by
  rw [List.getElem?_toArray, List.getElem?_map]; simp [h]
theorem blk_set {w : World} {b t k : Nat} {xs : List Value} {u : Value} (h : w.heap[b]? = some (.cells xs.toArray t (0, 0))) : (w.setCell ⟨b, k, none⟩ u).heap[b]? = some (.cells (xs.set k u).toArray t (0, 0)) := by
  rw [blk3_set h]; simp
/-- A column has been found. -/
theorem ColP.fill {wr w2 w3 : World} {v : Value} {c : Nat} (h : ColP w0 R C A n cp G bD bG bF gd gf W) (hc : c < C) (hb : Below W.heap.size W wr) (h2 : wr.setCell ⟨gd, c, none⟩ (.bool true) = w2) (hb3 : Below w2.heap.size w2 w3) (ho : OwnS w3 w2.heap.size v (secs (lnC G R C c))) :
    ColP w0 R C A n cp G bD bG bF gd gf (w3.setCell ⟨gf, c, none⟩ v) ∧ SameD W (w3.setCell ⟨gf, c, none⟩ v) ∧ OwnS (w3.setCell ⟨gf, c, none⟩ v) w0.heap.size v (secs (lnC G R C c)) := by
  subst h2
  have hsz : (wr.setCell ⟨gd, c, none⟩ (.bool true)).heap.size = wr.heap.size := by simp
  rw [hsz] at hb3 ho
  have hW := hb.size
  have hW0 := h.bel.size
  obtain ⟨dn, fv, hd, hf, hov⟩ := h.ex
  have lgd := lt_of_block hd
  have lgf := lt_of_block hf
  have hsame : SameD W (w3.setCell ⟨gf, c, none⟩ v) := by
    intro b t cs t1 t2 hblk
    have hl := lt_of_block hblk
    have n1 : b ≠ gd := by rintro rfl; rw [hd] at hblk; simp at hblk; exact t1 hblk.2.symm
    have n2 : b ≠ gf := by rintro rfl; rw [hf] at hblk; simp at hblk; exact t2 hblk.2.symm
    exact (Below.heap_setCell _ _ _ _ n2).trans ((hb3.block b (by omega)).trans ((Below.heap_setCell _ _ _ _ n1).trans ((hb.block b hl).trans hblk)))
  have k1 : w3.heap[gd]? = some (.cells ((List.range C).map (fun i => Value.bool (if i = c then true else dn i))).toArray 4 (0, 0)) := by
    refine (hb3.block gd (by omega)).trans ?_
    rw [blk_set ((hb.block gd lgd).trans hd), mapR_set]
    congr 4
    funext i
    split <;> rfl
  have hne : gd ≠ gf := by rintro rfl; rw [hd] at hf; simp at hf
  have k2 : w3.heap[gf]? = some (.cells ((List.range C).map fv).toArray 112 (0, 0)) := (hb3.block gf (by omega)).trans ((Below.heap_setCell _ _ _ _ (fun e => hne e.symm)).trans ((hb.block gf lgf).trans hf))
  have hov2 : OwnS (w3.setCell ⟨gf, c, none⟩ v) w0.heap.size v (secs (lnC G R C c)) := by
    refine OwnT.more (OwnT.setLt ho (p := ⟨gf, c, none⟩) (by show gf < wr.heap.size; omega) v) (by omega)
  refine ⟨⟨?_, h.le, hsame _ _ _ (by decide) (by decide) h.gb, hsame _ _ _ (by decide) (by decide) h.db, hsame _ _ _ (by decide) (by decide) h.fb, fun i => if i = c then true else dn i, fun i => if i = c then v else fv i, (Below.heap_setCell _ _ _ _ hne).trans k1, ?_, ?_⟩, hsame, hov2⟩
  · refine (((h.bel.trans (hb.mono hW0)).setCell (p := ⟨gd, c, none⟩) h.le.1 _).trans (hb3.mono (by omega))).setCell (p := ⟨gf, c, none⟩) h.le.2 _
  · rw [blk_set k2, mapR_set]
  · intro i hi hdi
    by_cases he : i = c
    · subst he; simp only [if_true]; exact hov2
    · simp only [if_neg he] at hdi ⊢
      exact OwnT.sameD (hov i hi hdi) hsame (by decide) (by decide)
end
theorem cell_m {w : World} {b t c N : Nat} {f : Nat → Value} (h : w.heap[b]? = some (.cells ((List.range N).map f).toArray t (0, 0))) (hc : c < N) : w.cell? ⟨b, c, none⟩ = some (f c) := by
  rw [cell_of_row w b c _ t (0, 0) h, mapR_get f hc]
theorem cell_1 {w : World} {b t : Nat} {x : Value} (h : w.heap[b]? = some (.cells #[x] t (0, 0))) : w.cell? ⟨b, 0, none⟩ = some x := by rw [cell_of_row w b 0 _ t (0, 0) h]; rfl
theorem rep_map {α : Type} (N : Nat) (x : α) : List.replicate N x = (List.range N).map (fun _ => x) := by
  apply List.ext_getElem?; intro i; by_cases h : i < N <;> simp [h]
set_option maxRecDepth 100000 in
set_option maxHeartbeats 8000000 in
theorem columns_any (R C : Nat) (A : Option Addr) (n cp : Nat) (G : List Int) (w : World) (hC : C ≤ 40000) :
    Calls Try.prog 78 #[.agg #[.int .i64 R, .int .i64 C, .slice A n cp]] w fun e w' => ∃ bD bG bF gd gf, e = .returned (.func (.func 103) #[] #[.pointer (some ⟨bD, 0, none⟩), .pointer (some ⟨bG, 0, none⟩), .pointer (some ⟨bF, 0, none⟩)]) ∧ ColP w R C A n cp G bD bG bF gd gf w' := by
  obtain ⟨i1, hi1⟩ := info_own' info_bool
  obtain ⟨i2, hi2⟩ := info_own' info_secS
  have hm1 : ∀ w : World, (Instr.makeSlice 129 (.int .i64 C) (.int .i64 C)).run Try.prog w = .ok (.slice (some ⟨w.heap.size, 0, none⟩) C C) (w.alloc (.cells (List.replicate C (.bool false)).toArray 4)) :=
    fun w => make_anyS (n := C) 129 4 i1 (.bool false) Try.underlying129 hi1.1 hi1.2.1 hi1.2.2.1 (by rw [hi1.2.2.2]; omega) (by omega) rfl w
  have hm2 : ∀ w : World, (Instr.makeSlice 130 (.int .i64 C) (.int .i64 C)).run Try.prog w = .ok (.slice (some ⟨w.heap.size, 0, none⟩) C C) (w.alloc (.cells (List.replicate C (.slice none 0 0)).toArray 112)) :=
    fun w => make_anyS (n := C) 130 112 i2 (.slice none 0 0) Try.underlying130 hi2.1 hi2.2.1 hi2.2.2.1 (by rw [hi2.2.2.2]; omega) (by omega) rfl w
  simp only [List.toArray_replicate] at hm1 hm2
  clear hi1 hi2
  go_enter Try.func78, Try.ntmps78
  go_wp2_with fail
  go_ret
  refine ⟨w.heap.size + 1 + 1, w.heap.size, w.heap.size + 1 + 1 + 1 + 1, w.heap.size + 1, w.heap.size + 1 + 1 + 1, rfl, by (repeat (first | (with_reducible assumption) | (with_reducible exact Below.refl _ _) | (with_reducible refine below_drewN' ?_ _) | (with_reducible refine Below.drew ?_) | ((with_reducible refine Below.alloc ?_ ?_ _); rotate_left; focus (first | (simp; done) | (simp; omega) | omega)) | ((with_reducible refine Below.setCell ?_ ?_ _); rotate_left; focus (first | (simp; done) | (simp; omega) | omega)))), ⟨by omega, by omega⟩, by (repeat (first | (with_reducible exact heap_alloc_new _ _) | (rw [heap_drew1]) | (rw [heap_drewN1]) | (rw [Below.heap_setCell _ _ _ _ (by first | omega | (simp; done) | (simp; omega))]) | (rw [Below.heap_alloc _ _ _ (by first | omega | (simp; done) | (simp; omega))]) | (exact heap_alloc_at (by first | omega | (simp; done) | (simp; omega))))), by (repeat (first | (with_reducible exact heap_alloc_new _ _) | (rw [heap_drew1]) | (rw [heap_drewN1]) | (rw [Below.heap_setCell _ _ _ _ (by first | omega | (simp; done) | (simp; omega))]) | (rw [Below.heap_alloc _ _ _ (by first | omega | (simp; done) | (simp; omega))]) | (exact heap_alloc_at (by first | omega | (simp; done) | (simp; omega))))), by (repeat (first | (with_reducible exact heap_alloc_new _ _) | (rw [heap_drew1]) | (rw [heap_drewN1]) | (rw [Below.heap_setCell _ _ _ _ (by first | omega | (simp; done) | (simp; omega))]) | (rw [Below.heap_alloc _ _ _ (by first | omega | (simp; done) | (simp; omega))]) | (exact heap_alloc_at (by first | omega | (simp; done) | (simp; omega))))), fun _ => false, fun _ => .slice none 0 0, ?_, ?_, fun c hc h => by simp at h⟩
  · rw [← rep_map, ← List.toArray_replicate]; (repeat (first | (with_reducible exact heap_alloc_new _ _) | (rw [heap_drew1]) | (rw [heap_drewN1]) | (rw [Below.heap_setCell _ _ _ _ (by first | omega | (simp; done) | (simp; omega))]) | (rw [Below.heap_alloc _ _ _ (by first | omega | (simp; done) | (simp; omega))]) | (exact heap_alloc_at (by first | omega | (simp; done) | (simp; omega)))))
  · rw [← rep_map, ← List.toArray_replicate]; (repeat (first | (with_reducible exact heap_alloc_new _ _) | (rw [heap_drew1]) | (rw [heap_drewN1]) | (rw [Below.heap_setCell _ _ _ _ (by first | omega | (simp; done) | (simp; omega))]) | (rw [Below.heap_alloc _ _ _ (by first | omega | (simp; done) | (simp; omega))]) | (exact heap_alloc_at (by first | omega | (simp; done) | (simp; omega)))))
set_option maxRecDepth 100000 in
set_option maxHeartbeats 8000000 in
theorem col_any (R C c bD bG bF gd gf : Nat) (A : Option Addr) (n cp : Nat) (G : List Int) (w0 W : World) (hr : RI w0 w0.heap.size A n G) (hn : n = R * C) (hnb : n ≤ 40000) (hR : R ≤ 40000) (hC : C ≤ 40000) (hc : c < C) (hp : ColP w0 R C A n cp G bD bG bF gd gf W) :
    Calls Try.prog 103 #[.int .i64 c, .pointer (some ⟨bD, 0, none⟩), .pointer (some ⟨bG, 0, none⟩), .pointer (some ⟨bF, 0, none⟩)] W fun e W' => ∃ v, e = .returned v ∧ OwnS W' w0.heap.size v (secs (lnC G R C c)) ∧ ColP w0 R C A n cp G bD bG bF gd gf W' ∧ SameD W W' := by
  obtain ⟨dn, fv, hd, hf, hov⟩ := hp.ex
  have cd := cell_m hd hc
  have cf := cell_m hf hc
  have cD := cell_1 hp.db
  have cF := cell_1 hp.fb
  obtain ⟨cG0, cG1, cG2, -⟩ := blk3 hp.gb
  have lD := lt_of_block hp.db
  have lG := lt_of_block hp.gb
  have lF := lt_of_block hp.fb
  have ld := lt_of_block hd
  have lf := lt_of_block hf
  have hcC : (c : Int) < (C : Int) := by omega
  have hfd : W.frozen? ⟨gd, c, none⟩ = false := blk_frozen hd c
  have hff : W.frozen? ⟨gf, c, none⟩ = false := blk_frozen hf c
  have HP := Lib.hid hp
  have HV := Lib.hid (hov c hc)
  cases hdn : dn c with
  | true =>
    rw [hdn] at cd
    have HV2 := Lib.hid (HV.out hdn)
    clear hov hd hf hdn
    obtain ⟨A', c', hfv⟩ := HV2.out.shape
    rw [hfv] at HV2 cf
    clear hp hr hfv
    go_enter Try.func103, Try.ntmps103
    go_wp2_with fail
    go_ret
    exact ⟨_, rfl, HV2.out, HP.out, fun _ _ _ _ _ h => h⟩
  | false =>
    rw [hdn] at cd
    obtain ⟨i0, hi⟩ := info_own' info_i64s
    have hmk : ∀ w : World, (Instr.makeSlice 22 (.int .i64 R) (.int .i64 R)).run Try.prog w = .ok (.slice (some ⟨w.heap.size, 0, none⟩) R R) (w.alloc (.cells (List.replicate R (.int .i64 0)).toArray 2)) :=
      fun w => make_anyS (n := R) 22 2 i0 (.int .i64 0) Try.underlying22 hi.1 hi.2.1 hi.2.2.1 (by rw [hi.2.2.2]; omega) (by omega) rfl w
    simp only [List.toArray_replicate] at hmk
    have HR := Lib.hid hr
    have HN := Lib.hid hn
    have HW0 : Hid (Below w0.heap.size w0 W) := Lib.hid hp.bel
    have HL0 : Hid (RowAt (W.alloc (.cells (Array.replicate R (.int .i64 0)) 2)) W.heap.size 2 (List.replicate R 0)) := Lib.hid (RowAt.made (by simp))
    have HFZ := Lib.hid (And.intro hfd hff)
    have HC := Lib.hid (And.intro cG0 (And.intro cG1 cG2))
    clear hov hd hf hdn hp hr hn hi hff
    go_enter Try.func103, Try.ntmps103
    go_wp2_with fail
    go_loopw [18] (fun i wr => ∃ k : Nat, k ≤ R ∧ i = .int .i64 k ∧ Hid (RowAt wr W.heap.size 2 ((lnC G R C c).take k ++ (List.replicate R 0).drop k)) ∧ Hid (Below W.heap.size W wr)) (fun i _ => R - (intOf i).toNat)
    case atStart => exact ⟨0, Nat.zero_le _, rfl, Lib.hid (by simpa using HL0.out), Lib.hid (by go_grown)⟩
    case round =>
      clear HL0
      obtain ⟨k, hk, rfl, HL, HB⟩ := hrel
      have hzw := HB.out.size
      have hzl := HL.out.lt
      by_cases hlt : k < R
      · have hkR : (k : Int) < (R : Int) := by omega
        have g0 := (HB.out.cell (p := ⟨bG, 0, none⟩) lG).trans HC.out.1
        have g1 := (HB.out.cell (p := ⟨bG, 1, none⟩) lG).trans HC.out.2.1
        have g2 := (HB.out.cell (p := ⟨bG, 2, none⟩) lG).trans HC.out.2.2
        have HAT := Lib.hid (fun (w' : World) (hb : Below W.heap.size W w') => atG_any (R : Nat) (C : Nat) (k : Nat) (c : Nat) A cp n (k * C + c) G w' w0.heap.size (HR.out.below (HW0.out.trans (hb.mono HW0.out.size))) (by have := HW0.out.size; have := hb.size; omega) (by omega) (by simp) (by rw [HN.out]; exact col_lt hlt hc) (by omega))
        have HT : Hid ((((lnC G R C c).take k ++ (List.replicate R 0).drop k).set k (nth G (k * C + c))) = (lnC G R C c).take (k + 1) ++ (List.replicate R 0).drop (k + 1)) := Lib.hid (by
          have h := set_mix (xs := List.replicate R 0) (ys := lnC G R C c) (k := k) (by rw [lnC_len, List.length_replicate]) (by simpa using hlt)
          have e : nth (lnC G R C c) k = nth G (k * C + c) := by unfold lnC; rw [nth_lt (by simpa using hlt)]; simp
          rwa [e] at h)
        have hlen : ((lnC G R C c).take k ++ (List.replicate R 0).drop k).length = R := by
          rw [len_mix (by rw [lnC_len, List.length_replicate]) (by simpa using hk), List.length_replicate]
        have hcr := HL.out.cell (k := k) (by rw [hlen]; exact hlt)
        have hfr := HL.out.free k
        generalize nth ((lnC G R C c).take k ++ (List.replicate R 0).drop k) k = old at hcr
        generalize nth G (k * C + c) = x at *
        clear hlen cd cf cD cF hfd
        go_wp2_with (go_at_call 102; refine (HAT.out _ (by with_reducible exact HB.out)).mono ?_; rintro e5 w5 ⟨rfl, hb5⟩; obtain ⟨hc5, hf5⟩ := bcell hb5; have hcr5 := (hc5 _ _ hzl).trans hcr; have hfr5 := (hf5 _ _ hzl).trans hfr; have HL5 := Lib.hid (HL.out.below hb5 hzl); have HB5 := Lib.hid (HB.out.trans (hb5.mono hzw)); clear hb5 hc5 hf5)
        go_roundw
        case rel => exact ⟨k + 1, by omega, by go_num, Lib.hid ((HL5.out.set (k := k) x).to HT.out), Lib.hid (HB5.out.setCell (p := ⟨W.heap.size, k, none⟩) (Nat.le_refl _) _)⟩
        case measure => simp [intOf]; omega
      · have hkR : ¬ (k : Int) < (R : Int) := by omega
        have HLF : Hid (RowAt wr W.heap.size 2 (lnC G R C c)) := Lib.hid (HL.out.to (by rw [List.take_of_length_le (by rw [lnC_len]; omega), List.drop_of_length_le (by simp; omega), List.append_nil]))
        have d1 := (HB.out.cell (p := ⟨bD, 0, none⟩) lD).trans cD
        have d2 := (HB.out.cell (p := ⟨gd, c, none⟩) ld).trans cd
        have d3 := (HB.out.frozen (p := ⟨gd, c, none⟩) ld).trans hfd
        obtain ⟨W2, hW2⟩ : ∃ W2, wr.setCell ⟨gd, c, none⟩ (.bool true) = W2 := ⟨_, rfl⟩
        have hsz2 : W2.heap.size = wr.heap.size := by rw [← hW2]; simp
        have HFILL := Lib.hid (fun (w3 : World) (v : Value) (hb3 : Below W2.heap.size W2 w3) (ho : OwnS w3 W2.heap.size v (secs (lnC G R C c))) => HP.out.fill hc HB.out hW2 hb3 ho)
        have hdF : bF ≠ gd := by
          rintro rfl
          obtain ⟨dn', fv', hd', -, -⟩ := HP.out.ex
          have := HP.out.fb
          rw [hd'] at this; simp at this
        have hfF : bF ≠ gf := by
          rintro rfl
          obtain ⟨dn', fv', -, hf', -⟩ := HP.out.ex
          have := HP.out.fb
          rw [hf'] at this; simp at this
        have hdf : gf ≠ gd := by
          rintro rfl
          obtain ⟨dn', fv', hd', hf', -⟩ := HP.out.ex
          rw [hd'] at hf'; simp at hf'
        have e1 : W2.cell? ⟨bF, 0, none⟩ = some (.slice (some ⟨gf, 0, none⟩) C C) := by
          rw [← hW2]
          exact (World.cell?_of_block (Below.heap_setCell _ _ _ _ hdF)).trans ((HB.out.cell (p := ⟨bF, 0, none⟩) lF).trans cF)
        have e2 : W2.cell? ⟨gf, c, none⟩ = some (fv c) := by
          rw [← hW2]
          exact (World.cell?_of_block (Below.heap_setCell _ _ _ _ hdf)).trans ((HB.out.cell (p := ⟨gf, c, none⟩) lf).trans cf)
        have e3 : W2.frozen? ⟨gf, c, none⟩ = false := by
          rw [← hW2]
          exact (World.frozen?_of_block (Below.heap_setCell _ _ _ _ hdf)).trans ((HB.out.frozen (p := ⟨gf, c, none⟩) lf).trans HFZ.out.2)
        have HL2 : Hid (RI W2 W2.heap.size (some ⟨W.heap.size, 0, none⟩) R (lnC G R C c)) := Lib.hid (by
          refine RowAt.RI (t := 2) ?_ (by omega) (lnC_len _ _ _ _)
          rw [← hW2]
          exact RowAt.of (Below.heap_setCell _ _ _ _ (by show W.heap.size ≠ gd; omega)) HLF.out)
        have HSEC := Lib.hid (fun (w' : World) (hb : Below W2.heap.size W2 w') => sections_any (some ⟨W.heap.size, 0, none⟩) R R (lnC G R C c) w' ((HL2.out.below hb).more hb.size) hR)
        have lF2 : bF < W2.heap.size := by omega
        have lf2 : gf < W2.heap.size := by omega
        clear hfd cd cD HL cG0 cG1 cG2 cF cf hdF hdf
        go_wp2_with fail
        clear d1 d2 d3 hW2
        generalize fv c = old at *
        go_region_law (go_simp; (with_reducible refine (HSEC.out _ (by (repeat (first | (with_reducible assumption) | (with_reducible exact Below.refl _ _) | (with_reducible refine below_drewN' ?_ _) | (with_reducible refine Below.drew ?_) | ((with_reducible refine Below.alloc ?_ ?_ _); rotate_left; focus (first | (simp; done) | (simp; omega) | omega)) | ((with_reducible refine Below.setCell ?_ ?_ _); rotate_left; focus (first | (simp; done) | (simp; omega) | omega)))))).mono ?_; rintro e3 w3 ⟨v3, rfl, hos, hb3⟩; have hb3' : Below W2.heap.size W2 w3 := (by first | exact hb3 | exact (Below.drew (Below.refl _ W2)).trans (by have h := hb3; rw [heap_drew1] at h; exact h)); have hos' : OwnS w3 W2.heap.size v3 (secs (lnC G R C c)) := (by first | exact hos | (have h := hos; rw [heap_drew1] at h; exact h)); have HF3 := Lib.hid (HFILL.out w3 v3 hb3' hos'); obtain ⟨A3, c3, rfl⟩ := OwnS.shape hos'; have x1 := (hb3'.cell (p := ⟨bF, 0, none⟩) lF2).trans e1; have x2 := (hb3'.cell (p := ⟨gf, c, none⟩) lf2).trans e2; have x3 := (hb3'.frozen (p := ⟨gf, c, none⟩) lf2).trans e3; clear hb3 hb3' hos hos'))
        all_goals
          go_wp2_with fail
          go_ret
          exact ⟨_, rfl, HF3.out.2.2, HF3.out.1, HF3.out.2.1⟩
end Go.Proofs.Ytkipaefhnmfebaa
