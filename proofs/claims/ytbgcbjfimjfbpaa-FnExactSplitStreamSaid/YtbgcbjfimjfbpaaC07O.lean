/-
  The reference's order of a stream: a slice of pairs.
-/
import Derived.Test.YtbgcbjfimjfbpaaPrs
namespace Go.Proofs.Ytbgcbjfimjfbpaa
set_option linter.unusedSimpArgs false
open Go.RowKit

theorem info_pairs : (Try.prog.info? 24).map (fun i => (i.zero, i.size, i.bytes)) = some (some nilW, 1, 24) := by kernel_rfl
theorem cells_news_at {w : World} (cs : List Value) (t g : Nat) (hg : g = w.heap.size) : ∀ j u, cs[j]? = some u → (w.alloc (.cells cs.toArray t)).cell? ((⟨g, 0, none⟩ : Addr).add j) = some u := by
  intro j u hj
  subst hg
  have hadd : (⟨w.heap.size, 0, none⟩ : Addr).add j = ⟨w.heap.size, j, none⟩ := by unfold Addr.add; split <;> simp_all
  rw [hadd, cell_of_row _ _ j cs.toArray t (0, 0) (heap_alloc_new w _)]
  simpa using hj
/-- What the making of the order carries. -/
structure OrT (w wr : World) (p k g : Int) (D H C : Nat) (v : Value) (L : List (Nat × Nat)) : Prop where
  lay : LayAt wr w.heap.size p k g D H C
  prs : Prs wr w.heap.size v L
  bel : Below w.heap.size w wr
theorem OrT.keep {w wr w' : World} {p k g : Int} {D H C : Nat} {v : Value} {L : List (Nat × Nat)} (h : OrT w wr p k g D H C v L) (hb : Below wr.heap.size wr w') : OrT w w' p k g D H C v L :=
  ⟨h.lay.below hb, h.prs.keep hb, h.bel.trans (hb.mono h.bel.size)⟩
theorem OrT.to {w wr : World} {p k g : Int} {D H C : Nat} {v : Value} {L L' : List (Nat × Nat)} (h : OrT w wr p k g D H C v L) (e : L = L') : OrT w wr p k g D H C v L' := e ▸ h
theorem OrT.snoc {w wr wa : World} {p k g : Int} {D H C b e : Nat} {v va : Value} {L : List (Nat × Nat)} {gs : Nat → Nat} {o2 : Obj} (h : OrT w wr p k g D H C v L)
    (h1 : wr.ownsRow w.heap.size 24 1 v L.length (prVs gs L.length)) (h2 : ∀ i, i < L.length → w.heap.size ≤ gs i ∧ RowAt wr (gs i) 2 (pairL (L.getD i (0, 0))))
    (hown : wa.ownsRow w.heap.size 24 1 va (L.length + 1) (prVs gs L.length ++ [prV wr.heap.size])) (hg : ((wr.alloc (.cells #[.int .i64 (b : Nat), .int .i64 (e : Nat)] 2)).alloc o2).grownBy wa v.ownBlock) :
    OrT w wa p k g D H C va (L ++ [(b, e)]) :=
  ⟨grown_ne h1 hg h.lay (by decide), Prs.snoc h1 h2 h.bel.size hown hg, by
    have hz := h.bel.size
    exact ((h.bel.alloc hz _).alloc (by simp; omega) _).grown hg (by simp; omega) (fun k hk => (World.ownsRow.lt h1 k hk).1)⟩

set_option maxRecDepth 100000 in
set_option maxHeartbeats 8000000 in
theorem l07Order_any (p k g : Int) (D C H : Nat) (hC : 1 ≤ C) (hC2 : C ≤ 16) (hD : D ≤ 1500) (hH : H ≤ 64) (w : World) :
    Calls Try.prog 79 #[.agg #[.int .i64 p, .int .i64 k, .int .i64 g, .int .i64 D, .int .i64 H, .int .i64 C]] w fun e w' => ∃ v, e = .returned v ∧ Prs w' w.heap.size v (ordL D C H) ∧ Below w.heap.size w w' := by
  obtain ⟨j0, hj⟩ := info_own' info_pairs
  have HJ := Lib.hid (And.intro j0.bytes.le_refl hj)
  have HSH := Lib.hid (fun b w (hb : b ≤ 16) => l07Size_any p k g D H C b w hC hC2 hD hb)
  obtain ⟨q1, q2, q3, q4, q5, q6⟩ := share_facts D C hC hC2 hD
  have hQ : D / C ≤ 1500 := Nat.le_trans (Nat.div_le_self _ _) hD
  have hshl := fun b => (show shN D C b ≤ 1501 from by have := Nat.div_le_self D C; unfold shN; split <;> omega)
  have HLN := Lib.hid (ordL_len (D := D) H hC)
  have HNX := Lib.hid (ord1_next (D := D) hC)
  have hC0 : ¬ C = 0 := by omega
  have hCH := Nat.mul_le_mul hC2 hH
  have hl1 := Lib.hid (fun e b (h1 : e < lngN D C) (h2 : b < C) (h3 : e < shN D C b) => part1_lt hC h1 h2 h3)
  have hl2 := Lib.hid (fun e b (h1 : e < H) (h2 : b < C) => part2_lt (D := D) (C := C) (H := H) (e := e) (b := b) hC h1 h2)
  clear hj
  go_enter Try.func79, Try.ntmps79
  go_wp2_with fail
  have HS0 : Hid (OrT w ((w.alloc (.cells (layC p k g D H C) 30)).alloc (.cells #[] 24)) p k g D H C (.slice (some ⟨w.heap.size + 1, 0, none⟩) 0 0) []) := Lib.hid (by
    refine ⟨(Below.heap_alloc _ _ _ (by simp)).trans (heap_alloc_new _ _), ?_, by go_grown⟩
    have := Prs.empty (w := w.alloc (.cells (layC p k g D H C) 30)) (B := w.heap.size) (by simp)
    simpa using this)
  generalize hQe : D / C = Q at *
  go_loopw [3, 4] (fun q i wr => ∃ e : Nat, e ≤ Q + 1 ∧ i = .int .i64 e ∧ Hid (OrT w wr p k g D H C q (ord1 D C e))) (fun _ i _ => Q + 1 - (intOf i).toNat)
  case atStart => exact ⟨0, Nat.zero_le _, rfl, HS0⟩
  case round =>
    obtain ⟨e, he, rfl, HS⟩ := hrel
    obtain ⟨c0, c1, c2, c3, c4, c5⟩ := HS.out.lay.cells
    clear HS0
    by_cases hlt : e < Q + 1
    · have hd : decide (e ≤ Q) = true := decide_eq_true (by omega)
      go_wp2_with fail
      go_loopw [3, 5] (fun q i wr => ∃ b : Nat, b ≤ C ∧ i = .int .i64 b ∧ Hid (OrT w wr p k g D H C q (ord1 D C e ++ row1 D C e b))) (fun _ i _ => C - (intOf i).toNat)
      case atStart => exact ⟨0, Nat.zero_le _, rfl, Lib.hid (HS.out.to (by rw [row1_zero, List.append_nil]))⟩
      case round =>
        clear HS c0 c1 c2 c3 c4 c5
        obtain ⟨b, hb, rfl, HS⟩ := hrel
        obtain ⟨c0, c1, c2, c3, c4, c5⟩ := HS.out.lay.cells
        by_cases hbl : b < C
        · have hsb := hshl b
          by_cases hes : e < shN D C b
          · have hlng : e < lngN D C := by
              unfold lngN
              have := hes
              unfold shN at this ⊢
              rw [hQe] at this ⊢
              split at this
              · rw [if_pos (by omega)]; omega
              · omega
            have hlen := hl1.out e b hlng hbl hes
            have HN : Hid (ord1 D C e ++ row1 D C e b ++ [(b, e)] = ord1 D C e ++ row1 D C e (b + 1)) := Lib.hid (by rw [row1_yes hes, List.append_assoc])
            go_wp2_with first | (go_at_call 104; refine (HSH.out b _ (by omega)).mono ?_; rintro eb wb ⟨rfl, hbb⟩; have HSb := Lib.hid (HS.out.keep hbb); clear hbb; obtain ⟨cb0, cb1, cb2, cb3, cb4, cb5⟩ := HSb.out.lay.cells; obtain ⟨gs, hrow, hpr⟩ := HSb.out.prs.ex; have HWb := Lib.hid hrow; have HPb := Lib.hid hpr; have HZb := Lib.hid HSb.out.bel.size; clear hrow hpr) | (at_builtin; refine wpList_append_own _ rfl _ _ 63 rfl w.heap.size 24 j0 nilW 1 24 Try.underlying63 HJ.out.2.1 HJ.out.2.2.1 HJ.out.2.2.2.1 HJ.out.2.2.2.2 rfl (by decide) _ _ _ rfl (World.ownsRow.alloc (World.ownsRow.alloc HWb.out _) _) ⟨wb.heap.size + 1, 0, none⟩ 1 1 [prV wb.heap.size] rfl rfl (cells_news_at _ _ _ (by simp)) (fun u hu => by simp at hu; subst hu; rfl) (by unfold maxLen; omega) (by omega) (by have := HZb.out; simp; omega) ?_; intro va wa hown hg _; have HOWN := Lib.hid hown; have HG := Lib.hid hg; clear hown hg)
            go_roundw
            case rel => exact ⟨b + 1, by omega, by go_num, Lib.hid ((OrT.snoc HSb.out HWb.out HPb.out HOWN.out HG.out).to HN.out)⟩
            case measure => simp [intOf]; omega
          · have HN : Hid (ord1 D C e ++ row1 D C e b = ord1 D C e ++ row1 D C e (b + 1)) := Lib.hid (by rw [row1_no hes])
            go_wp2_with (go_at_call 104; refine (HSH.out b _ (by omega)).mono ?_; rintro eb wb ⟨rfl, hbb⟩; have HSb := Lib.hid (HS.out.keep hbb); clear hbb; obtain ⟨cb0, cb1, cb2, cb3, cb4, cb5⟩ := HSb.out.lay.cells; obtain ⟨gs, hrow, hpr⟩ := HSb.out.prs.ex; have HWb := Lib.hid hrow; have HPb := Lib.hid hpr; have HZb := Lib.hid HSb.out.bel.size; clear hrow hpr)
            go_roundw
            case rel => exact ⟨b + 1, by omega, by go_num, Lib.hid (HSb.out.to HN.out)⟩
            case measure => simp [intOf]; omega
        · have hbC : b = C := by omega
          have HN : Hid (ord1 D C e ++ row1 D C e b = ord1 D C (e + 1)) := Lib.hid (by rw [hbC, ord1_succ])
          clear hbC
          go_wp2_with fail
          go_roundw
          case rel => exact ⟨e + 1, by omega, by go_num, Lib.hid (HS.out.to HN.out)⟩
          case measure => simp [intOf]; omega
    · have hd : decide (e ≤ Q) = false := decide_eq_false (by omega)
      have heL : e = Q + 1 := by omega
      have HT : Hid (OrT w wr p k g D H C u3 (ord1 D C (lngN D C) ++ ord2 D C 0)) := Lib.hid (HS.out.to (by rw [heL, HNX.out, ord2_zero, List.append_nil]))
      clear heL HS hlt
      go_wp2_with fail
      go_loopw [3, 6] (fun q i wr => ∃ f : Nat, f ≤ H ∧ i = .int .i64 f ∧ Hid (OrT w wr p k g D H C q (ord1 D C (lngN D C) ++ ord2 D C f))) (fun _ i _ => H - (intOf i).toNat)
      case atStart => exact ⟨0, Nat.zero_le _, rfl, HT⟩
      case round =>
        clear HT c0 c1 c2 c3 c4 c5
        obtain ⟨f, hf, rfl, HS⟩ := hrel
        obtain ⟨c0, c1, c2, c3, c4, c5⟩ := HS.out.lay.cells
        by_cases hlt : f < H
        · have hd2 : decide (f < H) = true := decide_eq_true hlt
          go_wp2_with fail
          go_loopw [3, 7] (fun q i wr => ∃ b : Nat, b ≤ C ∧ i = .int .i64 b ∧ Hid (OrT w wr p k g D H C q (ord1 D C (lngN D C) ++ (ord2 D C f ++ row2 D C f b)))) (fun _ i _ => C - (intOf i).toNat)
          case atStart => exact ⟨0, Nat.zero_le _, rfl, Lib.hid (HS.out.to (by rw [row2_zero, List.append_nil]))⟩
          case round =>
            clear HS c0 c1 c2 c3 c4 c5
            obtain ⟨b, hb, rfl, HS⟩ := hrel
            obtain ⟨c0, c1, c2, c3, c4, c5⟩ := HS.out.lay.cells
            by_cases hbl : b < C
            · have hsb := hshl b
              have hlen := hl2.out f b hlt hbl
              have HN : Hid (ord1 D C (lngN D C) ++ (ord2 D C f ++ row2 D C f b) ++ [(b, shN D C b + f)] = ord1 D C (lngN D C) ++ (ord2 D C f ++ row2 D C f (b + 1))) := Lib.hid (by rw [row2_succ]; simp only [List.append_assoc])
              go_wp2_with first | (go_at_call 104; refine (HSH.out b _ (by omega)).mono ?_; rintro eb wb ⟨rfl, hbb⟩; have HSb := Lib.hid (HS.out.keep hbb); clear hbb; obtain ⟨cb0, cb1, cb2, cb3, cb4, cb5⟩ := HSb.out.lay.cells; obtain ⟨gs, hrow, hpr⟩ := HSb.out.prs.ex; have HWb := Lib.hid hrow; have HPb := Lib.hid hpr; have HZb := Lib.hid HSb.out.bel.size; clear hrow hpr) | (at_builtin; refine wpList_append_own _ rfl _ _ 63 rfl w.heap.size 24 j0 nilW 1 24 Try.underlying63 HJ.out.2.1 HJ.out.2.2.1 HJ.out.2.2.2.1 HJ.out.2.2.2.2 rfl (by decide) _ _ _ rfl (World.ownsRow.alloc (World.ownsRow.alloc HWb.out _) _) ⟨wb.heap.size + 1, 0, none⟩ 1 1 [prV wb.heap.size] rfl rfl (cells_news_at _ _ _ (by simp)) (fun u hu => by simp at hu; subst hu; rfl) (by unfold maxLen; omega) (by omega) (by have := HZb.out; simp; omega) ?_; intro va wa hown hg _; have HOWN := Lib.hid hown; have HG := Lib.hid hg; clear hown hg)
              go_roundw
              case rel =>
                refine ⟨b + 1, by omega, by go_num, Lib.hid ((OrT.snoc (b := b) (e := shN D C b + f) (o2 := .cells #[prV wb.heap.size] 24) HSb.out HWb.out HPb.out HOWN.out ?_).to HN.out)⟩
                rw [Int.natCast_add]; exact HG.out
              case measure => simp [intOf]; omega
            · have hbC : b = C := by omega
              have HN : Hid (ord1 D C (lngN D C) ++ (ord2 D C f ++ row2 D C f b) = ord1 D C (lngN D C) ++ ord2 D C (f + 1)) := Lib.hid (by rw [hbC, ord2_succ])
              clear hbC
              go_wp2_with fail
              go_roundw
              case rel => exact ⟨f + 1, by omega, by go_num, Lib.hid (HS.out.to HN.out)⟩
              case measure => simp [intOf]; omega
        · have hd2 : decide (f < H) = false := decide_eq_false hlt
          have hfH : f = H := by omega
          have HF : Hid (OrT w wr p k g D H C u3 (ordL D C H)) := Lib.hid (HS.out.to (by rw [hfH]; rfl))
          clear hfH HS
          go_wp2_with fail
          go_ret
          exact ⟨_, rfl, HF.out.prs, HF.out.bel⟩
end Go.Proofs.Ytbgcbjfimjfbpaa
