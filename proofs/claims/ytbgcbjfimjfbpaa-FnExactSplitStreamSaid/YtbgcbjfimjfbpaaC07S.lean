/-
  Contract of chapter 7: a stream split into its words (a range over the order of the stream).
-/
import Derived.Test.YtbgcbjfimjfbpaaOrdC
import Derived.Test.YtbgcbjfimjfbpaaRegIn
import Derived.Test.YtbgcbjfimjfbpaaWds
namespace Go.Proofs.Ytbgcbjfimjfbpaa
set_option linter.unusedSimpArgs false
open Go.RowKit Go.Shelf
attribute [local go_sem] Oper.semAt_some

theorem box_other {w : World} {b c t t' k : Nat} {cs cs' : Array Value} {u : Value} (h : w.heap[b]? = some (.cells cs t (0, 0))) (h' : w.heap[c]? = some (.cells cs' t' (0, 0))) (ht : t ≠ t') : (w.setCell ⟨c, k, none⟩ u).heap[b]? = some (.cells cs t (0, 0)) := by
  refine (Below.heap_setCell _ _ _ _ ?_).trans h
  rintro rfl
  rw [h] at h'
  simp at h'
  exact ht h'.2
theorem Wds.other {w : World} {B g n c K b t k : Nat} {wv : Nat → List Int} {cs : Array Value} {u : Value} (h : Wds w B g n c K wv) (hb : w.heap[b]? = some (.cells cs t (0, 0))) (h1 : t ≠ 2) (h2 : t ≠ 24) : Wds (w.setCell ⟨b, k, none⟩ u) B g n c K wv := by
  obtain ⟨gs, h3, h4, h5⟩ := h.ex
  exact ⟨h.le, gs, row_other h3 hb h2, fun i hi => ⟨(h4 i hi).1, box_other (h4 i hi).2 hb (Ne.symm h1)⟩, h5⟩
theorem make_any {n : Nat} (t e : TypeId) (i : TypeInfo) (z : Value) (ht : Try.prog.underlying t = some (.slice e)) (hi : Try.prog.info? e = some i) (hz : i.zero = some z) (h1 : i.size = 1) (h8 : i.bytes ≤ 24) (hn : n ≤ 1000000) (hc : z.cells = #[z]) (w : World) :
    (Instr.makeSlice t (.int .i64 n) (.int .i64 n)).run Try.prog w = .ok (.slice (some ⟨w.heap.size, 0, none⟩) n n) (w.alloc (.cells (List.replicate n z).toArray e)) := by
  have h9 : i.bytes * n ≤ 24000000 := Nat.le_trans (Nat.mul_le_mul h8 hn) (by omega)
  have h := run_makeSlice (P := Try.prog) w t e i z ht hi hz .i64 .i64 (n : Int) (n : Int) (by omega) (Int.le_refl _) (by rw [Int.toNat_natCast, h1]; omega) (by rw [← Int.natCast_mul]; omega) (by omega)
  have e : madeCells #[z] n = (List.replicate n z).toArray := by
    apply Array.ext'
    rw [toList_madeCells_one]
  rw [h, Int.toNat_natCast, h1, Nat.mul_one, hc, e]
theorem info_words : (Try.prog.info? 24).map (fun i => (i.zero, i.size, i.bytes)) = some (some nilW, 1, 24) := by kernel_rfl
/-- What a split carries from round to round. -/
structure SpS (w wr : World) (A : Option Addr) (n cp : Nat) (p k g : Int) (D H C K : Nat) (wv : Nat → List Int) : Prop where
  lay : LayAt wr w.heap.size p k g D H C
  str : wr.heap[w.heap.size + 1]? = some (.cells #[.slice A n cp] 24 (0, 0))
  wds : wr.heap[w.heap.size + 1 + 1 + 1]? = some (.cells #[.slice (some ⟨w.heap.size + 1 + 1, 0, none⟩) C C] 63 (0, 0))
  row : Wds wr w.heap.size (w.heap.size + 1 + 1) C C K wv
  bel : Below w.heap.size w wr

/-- Between two rounds of the range. -/
structure RdS (w : World) (bc : Nat) (A : Option Addr) (n cp : Nat) (p k g : Int) (D H C : Nat) (xs : List Int) (pre : List (Nat × Nat)) (W : World) : Prop where
  lay : LayAt W (bc + 1) p k g D H C
  str : W.heap[w.heap.size + 1]? = some (.cells #[.slice A n cp] 24 (0, 0))
  wds : W.heap[w.heap.size + 1 + 1 + 1]? = some (.cells #[.slice (some ⟨w.heap.size + 1 + 1, 0, none⟩) C C] 63 (0, 0))
  at_ : W.heap[bc]? = some (.cells #[.int .i64 (pre.length : Nat)] 3 (0, 0))
  row : Wds W w.heap.size (w.heap.size + 1 + 1) C C C (wdF (fun b => shN D C b + H) xs pre).2
theorem RdS.same {w W W' : World} {bc : Nat} {A : Option Addr} {n cp : Nat} {p k g : Int} {D H C : Nat} {xs : List Int} {pre : List (Nat × Nat)} (h : RdS w bc A n cp p k g D H C xs pre W) (hs : SameC W W') : RdS w bc A n cp p k g D H C xs pre W' :=
  ⟨hs _ _ _ h.lay, hs _ _ _ h.str, hs _ _ _ h.wds, hs _ _ _ h.at_, h.row.same hs⟩
theorem same_kept {W W' : World} {row : Option Nat} (hg : W.grownBy W' row) (hr : ∀ r, row = some r → ∃ o : Obj, W.heap[r]? = some o ∧ o.isCells = false) : SameC W W' :=
  fun _ _ _ h => (grownBy_keeps_cells hg hr h rfl).trans h
theorem same_below {W W' : World} (hb : Below W.heap.size W W') : SameC W W' := fun b _ _ h => (hb.block b (lt_of_block h)).trans h
theorem keeps_below {B : Nat} {W W' : World} (hb : Below W.heap.size W W') : KeepsFrom B W W' := ⟨hb.size, fun k _ _ hk _ => (hb.block k (Array.getElem?_eq_some_iff.1 hk).1).trans hk⟩

set_option maxRecDepth 100000 in
set_option maxHeartbeats 8000000 in
theorem split_any (p k g : Int) (D C H : Nat) (hC : 1 ≤ C) (hC2 : C ≤ 16) (hCD : C ≤ D) (hD : D ≤ 1500) (hH0 : 1 ≤ H) (hH : H ≤ 64) (A : Option Addr) (n cp : Nat) (xs : List Int) (w : World) (hr : RI w w.heap.size A n xs) (hn' : n = D + C * H) :
    Calls Try.prog 81 #[.agg #[.int .i64 p, .int .i64 k, .int .i64 g, .int .i64 D, .int .i64 H, .int .i64 C], .slice A n cp] w fun e w' =>
      ∃ g0, e = .returned (.slice (some ⟨g0, 0, none⟩) C C) ∧ Wds w' w.heap.size g0 C C C (wdL D C H xs) ∧ Below w.heap.size w w' := by
  have hn := Lib.hid hn'
  clear hn'
  obtain ⟨i0, hi⟩ := info_own' info_i64s
  have HI := Lib.hid (And.intro i0.bytes.le_refl hi)
  have HSH := Lib.hid (fun b w (hb : b ≤ 16) => share_any p k g D H C b w hC hC2 hD hb)
  have HMI := Lib.hid (fun n w (hn : n ≤ 1000000) => make_any (n := n) 24 2 i0 (.int .i64 0) Try.underlying24 HI.out.2.1 HI.out.2.2.1 HI.out.2.2.2.1 (by rw [HI.out.2.2.2.2]; omega) hn rfl w)
  clear hi
  obtain ⟨j0, hj⟩ := info_own' info_words
  have HJ := Lib.hid (And.intro j0.bytes.le_refl hj)
  clear hj
  have HMO := Lib.hid (fun w => make_any (n := C) 63 24 j0 nilW Try.underlying63 HJ.out.2.1 HJ.out.2.2.1 HJ.out.2.2.2.1 (by rw [HJ.out.2.2.2.2]; omega) (by omega) rfl w)
  have hmo : ∀ w : World, (Instr.makeSlice 63 (.int .i64 C) (.int .i64 C)).run Try.prog w = .ok (.slice (some ⟨w.heap.size, 0, none⟩) C C) (w.alloc (.cells (List.replicate C nilW).toArray 24)) := HMO.out
  refine (callsIn_wide (n := 8)).1 ?_
  refine callsIn_of_wp_marks Try.func81 rfl trivial ?_ rfl
  simp only [Try.ntmps81, List.size_toArray, List.length_cons, List.length_nil, Nat.reduceAdd, Nat.reduceSub, Array.replicate_succ, Array.replicate_zero, List.push_toArray, List.append_toArray, List.nil_append, List.cons_append]
  refine wpIn_wide.2 ?_
  go_wp2_with fail
  obtain ⟨W0, hW0⟩ : ∃ W0, (((w.alloc (.cells (layC p k g D H C) 30)).alloc (.cells #[.slice A n cp] 24)).alloc (.cells (Array.replicate C nilW) 24)).alloc (.cells #[.slice (some ⟨w.heap.size + 1 + 1, 0, none⟩) C C] 63) = W0 := ⟨_, rfl⟩
  rw [hW0]
  have HS0 : Hid (SpS w W0 A n cp p k g D H C 0 (fun b => List.replicate (shN D C b + H) 0)) := Lib.hid (by
    subst hW0
    refine ⟨?_, ?_, heap_alloc_at (by first | (simp; done) | (simp; omega)), ⟨Nat.zero_le _, fun _ => 0, ?_, fun b hb => absurd hb (by omega), fun b b' _ hb => absurd hb (by omega)⟩, by go_grown⟩
    · exact (Below.heap_alloc _ _ _ (by first | (simp; done) | (simp; omega))).trans ((Below.heap_alloc _ _ _ (by first | (simp; done) | (simp; omega))).trans ((Below.heap_alloc _ _ _ (by first | (simp; done) | (simp; omega))).trans (heap_alloc_new _ _)))
    · exact (Below.heap_alloc _ _ _ (by first | (simp; done) | (simp; omega))).trans ((Below.heap_alloc _ _ _ (by first | (simp; done) | (simp; omega))).trans (heap_alloc_at (by first | (simp; done) | (simp; omega))))
    · have h1 := World.ownsRow_lit (e := 24) (size := 1) (base := w.heap.size) ((w.alloc (.cells (layC p k g D H C) 30)).alloc (.cells #[.slice A n cp] 24)) (Array.replicate C nilW) C (by simp; omega) (by unfold maxLen; omega) (by simp)
      have h2 := World.ownsRow.alloc h1 (.cells #[.slice (some ⟨w.heap.size + 1 + 1, 0, none⟩) C C] 63)
      simp only [World.size_alloc] at h2
      have e : wVs (fun _ => 0) (fun b => List.replicate (shN D C b + H) 0) 0 C = (Array.replicate C nilW).toList := by unfold wVs; simp
      rw [e]; exact h2)
  have hsz0 : W0.heap.size = w.heap.size + 1 + 1 + 1 + 1 := by rw [← hW0]; simp
  clear hW0 hmo HMO
  go_loopw [15] (fun i wr => ∃ K : Nat, K ≤ C ∧ i = .int .i64 K ∧ Hid (SpS w wr A n cp p k g D H C K (fun b => List.replicate (shN D C b + H) 0))) (fun i _ => C - (intOf i).toNat)
  case atStart => exact ⟨0, Nat.zero_le _, rfl, HS0⟩
  case round =>
    obtain ⟨K, hK, rfl, HS⟩ := hrel
    by_cases hlt : K < C
    · obtain ⟨s, hs⟩ : ∃ s, shN D C K = s := ⟨_, rfl⟩
      have hs1 : s ≤ 1501 := by rw [← hs]; have := Nat.div_le_self D C; unfold shN; split <;> omega
      have HSK := Lib.hid (fun w => HSH.out K w (by omega))
      rw [hs] at HSK
      have hmi : ∀ w : World, (Instr.makeSlice 24 (.int .i64 ((s : Int) + (H : Int))) (.int .i64 ((s : Int) + (H : Int)))).run Try.prog w = .ok (.slice (some ⟨w.heap.size, 0, none⟩) (s + H) (s + H)) (w.alloc (.cells (Array.replicate (s + H) (.int .i64 0)) 2)) := fun w => by
        have h := HMI.out (s + H) w (by omega)
        rw [List.toArray_replicate, Int.natCast_add] at h
        exact h
      obtain ⟨c0, c1, c2, c3, c4, c5⟩ := HS.out.lay.cells
      have hq := cell_of_row _ _ 0 _ _ (0, 0) HS.out.wds
      simp only [List.getElem?_toArray, List.getElem?_cons_zero] at hq
      have hfr := HS.out.row.outer.2.2.1 K
      have hho := HS.out.row.hole hlt
      unfold nilW at hho
      have hgl := HS.out.row.outer.2.1
      have hwr : IntKind.i64.wrap ((s : Int) + (H : Int)) = (s : Int) + (H : Int) := wr64 (by omega)
      have hBw := HS.out.bel
      have hz := hBw.size
      have hz3 := lt_of_block HS.out.wds
      have hz4 : w.heap.size < wr.heap.size := by omega
      have hz5 : w.heap.size + 1 < wr.heap.size := by omega
      go_wp2_with fail
      refine wp_region_qat [] 9 [Mkr.blk (fun g => .slice (some ⟨g, 0, none⟩) (s + H) (s + H)) (.cells (Array.replicate (s + H) (.int .i64 0)) 2)] (by kernel_rfl) (by kernel_rfl) ?_
      intro hbc
      simp only [List.take_succ_cons, List.take_zero, List.drop_succ_cons, List.drop_zero]
      repeat (first
        | refine wpQ_pass rfl ?_
        | (refine wpQ_step rfl (fun K hK => ?_)
           go_simp
           first
             | (refine hK _ ?_; clear hK K)
             | (apply Exists.intro
                refine ⟨fun z => ?_, ?_⟩
                focus (first | (go_at_call 103; exact HSK.out _))
                refine hK _ ?_
                clear hK K)))
      refine wpQ_nil ⟨?_, ?_⟩
      · refine ⟨fun z => ?_, rfl⟩
        · set_option maxRecDepth 100000 in refine makes_blk ?_
          go_simp
      intro u1a g1a hi1a hg1a hl1a n1a w1 hb1 hF1
      clear hbc
      obtain ⟨hc1, hf1⟩ := bcell hb1
      obtain ⟨_, hs1a, ⟨rfl, rfl, hF1a⟩⟩ := hF1
      have hB1 : Below w.heap.size w w1 := below_then (by first | (go_grown; done) | (repeat (first | (with_reducible assumption) | (with_reducible exact Below.refl _ _) | (with_reducible refine below_drewN' ?_ _) | (with_reducible refine Below.drew ?_) | ((with_reducible refine Below.alloc ?_ ?_ _); rotate_left; focus (first | (simp; done) | (simp; omega) | omega)) | ((with_reducible refine Below.setCell ?_ ?_ _); rotate_left; focus (first | (simp; done) | (simp; omega) | omega))))) (by first | (simp; done) | (simp; omega) | omega) hb1
      have hz1a : w.heap.size + 1 + 1 < w1.heap.size := (by have := hb1.size; first | omega | (simp at this; omega))
      have hcg1a := blk_cell hF1a
      have hfg1a := blk_frozen hF1a
      try simp only [World.size_alloc] at hg1a
      clear n1a
      try simp only [Act.put, List.setIfInBounds_toArray, List.set_cons_succ, List.set_cons_zero]
      have hrow : RowAt w1 g1a 2 (List.replicate (s + H) 0) := by
        unfold RowAt
        rw [hF1a]; simp
      have HADD := Lib.hid (HS.out.row.add hb1 (g' := g1a) (xs := List.replicate (s + H) 0) (by omega) hz hrow hlt)
      have HF1 := Lib.hid (And.intro (HS.out.lay.below hb1) (And.intro ((hb1.block _ (by omega)).trans HS.out.str) ((hb1.block _ (by omega)).trans HS.out.wds)))
      clear hrow hF1a c0 c1 c2 c3 c4 c5 hq hmi
      go_wp2_with fail
      go_roundw
      case rel =>
        refine ⟨K + 1, by omega, by go_num, Lib.hid ⟨?_, ?_, ?_, ?_, ?_⟩⟩
        · exact (Below.heap_setCell _ _ _ _ (by show w.heap.size ≠ w.heap.size + 1 + 1; omega)).trans HF1.out.1
        · exact (Below.heap_setCell _ _ _ _ (by show w.heap.size + 1 ≠ w.heap.size + 1 + 1; omega)).trans HF1.out.2.1
        · exact (Below.heap_setCell _ _ _ _ (by show w.heap.size + 1 + 1 + 1 ≠ w.heap.size + 1 + 1; omega)).trans HF1.out.2.2
        · have h1 := HADD.out
          rw [List.length_replicate] at h1
          refine h1.to fun b hb => ?_
          by_cases e : b = K
          · subst e; rw [updW_same, hs]
          · rw [updW_other e]
        · exact hB1.setCell (p := ⟨w.heap.size + 1 + 1, K, none⟩) (by show w.heap.size ≤ w.heap.size + 1 + 1; omega) _
      case measure => simp [intOf]; omega
    · obtain rfl : C = K := by omega
      clear hK hlt HS0 HMI HSH
      have hq := cell_of_row _ _ 0 _ _ (0, 0) HS.out.wds
      simp only [List.getElem?_toArray, List.getElem?_cons_zero] at hq
      obtain ⟨c0, c1, c2, c3, c4, c5⟩ := HS.out.lay.cells
      have hz3 := lt_of_block HS.out.wds
      have hz4 : w.heap.size < wr.heap.size := by omega
      have hz5 : w.heap.size + 1 < wr.heap.size := by omega
      go_wp2_with (go_at_call 105; refine (order_any p k g D C H _).mono ?_; rintro e1 w1 ⟨rfl, rfl⟩)
      obtain ⟨W1, hW1⟩ : ∃ W1, (wr.alloc (.cells #[.int .i64 0] 3)).alloc (.cells (layC p k g D H C) 30) = W1 := ⟨_, rfl⟩
      have hRB : Below wr.heap.size wr W1 := by rw [← hW1]; go_grown
      have hsz1 : W1.heap.size = wr.heap.size + 1 + 1 := by rw [← hW1]; simp
      have HR0 : Hid (RdS w wr.heap.size A n cp p k g D H C xs [] W1) := Lib.hid ⟨by rw [← hW1]; exact heap_alloc_at (by simp), same_below hRB _ _ _ HS.out.str, same_below hRB _ _ _ HS.out.wds, by rw [← hW1]; exact (Below.heap_alloc _ _ _ (by simp)).trans (heap_alloc_new _ _), (HS.out.row.keep hRB).to (fun b _ => rfl)⟩
      have hBW : Hid (Below w.heap.size w W1) := Lib.hid (HS.out.bel.trans (hRB.mono HS.out.bel.size))
      rw [hW1]
      clear hW1 hRB HS hq c0 c1 c2 c3 c4 c5
      generalize wr.heap.size = bc at *
      refine (wpIn_wide (n := 8)).1 ?_
      refine wpIn_rangeFunc_ownG (F := Fence.wide) rfl (by omega) (gf := 115) (lb := #[.pointer (some ⟨bc + 1, 0, none⟩)]) rfl trivial (enters_of Try.func115 (by kernel_rfl) rfl)
        (order_stops 7 (by omega) p k g D C H hC hC2 hD hH (bc + 1) W1 HR0.out.lay) KpB.trans ?hKb (Below.refl _ _) (fun _ => rfl)
        (fun pre W => RdS w bc A n cp p k g D H C xs (pre.map (·.1)) W ∧ Below w.heap.size w W)
        (fun _ _ _ => False) ?hI (fun _ _ _ _ _ h _ _ => h) ⟨HR0.out, hBW.out⟩
        (fun x => { tmps := #[.agg (layC p k g D H C), .slice A n cp, .pointer (some ⟨w.heap.size, 0, none⟩), .pointer (some ⟨w.heap.size + 1, 0, none⟩), .slice none 0 0, .pointer (some ⟨w.heap.size + 1 + 1 + 1, 0, none⟩), u6, .pointer (some ⟨bc, 0, none⟩), .int .i64 (x.1.1 : Nat), .int .i64 (x.1.2 : Nat), .pointer (some ⟨w.heap.size, 5, none⟩), .int .i64 C,
          .slice (some ⟨w.heap.size + 1 + 1, 0, none⟩) C C, .slice (some ⟨w.heap.size + 1 + 1, 0, none⟩) C C, .int .i64 C, .int .i64 C, .bool false, u17, u18, u19, u20, u21, u22, u23, u24, u25, u26, u27, u28, .agg (layC p k g D H C), .func (.func 115) #[] #[.pointer (some ⟨bc + 1, 0, none⟩)], .int .i64 (x.1.1 : Nat), .int .i64 (x.1.2 : Nat), undef, undef, undef, undef, undef, undef, undef, undef, undef, undef, undef, undef, undef], defers := [] })
        ?assign ?body ?done ?stop
      case hKb =>
        intro W l o o' hl ho hc _
        exact World.putObj_heap_other (by omega)
      case hI =>
        exact fun s A' B' row hs hg hr => ⟨hs.1.same (same_kept hg (fun r e => (hr r e).2)), ownFrom_below (β := Unit) (Nat.le_refl _) (by omega) () A' B' row hs.2 hg hr⟩
      case assign =>
        intro l x W K hK
        simp only [encO]
        gi_wp2
        exact hK
      case body =>
        rintro l pre ⟨⟨b, e⟩, hb, he⟩ W ⟨hS, hB⟩ hlen
        simp only at hb he ⊢
        have hCH := Nat.mul_le_mul hC2 hH
        obtain ⟨j, hj⟩ : ∃ j, pre.length = j := ⟨_, rfl⟩
        have hjn : j < n := by have := hn.out; omega
        have hj2 : j < 3000 := by omega
        have HS := Lib.hid hS
        have HB := Lib.hid hB
        obtain ⟨bs, os, rfl, hbs, hxs⟩ := (hr.below hB).cells (by omega)
        have hxj := hxs j hjn
        obtain ⟨gb, hBgb, hgb, hcb, hce, hfe, hput, hrow⟩ := hS.row.look hb
        have hwl := wdF_len (fun b => shN D C b + H) xs (pre.map (·.1)) b
        rw [hwl] at hcb
        have hfb := hfe e
        have hcx := hce e (by rw [hwl]; exact he)
        obtain ⟨xj, hxe⟩ : ∃ xj, nth xs j = xj := ⟨_, rfl⟩
        rw [hxe] at hxj
        have HXE := Lib.hid hxe
        clear hxe
        have HRW := Lib.hid hrow
        clear hwl hfe hce hput hrow hxs
        obtain ⟨q, hq⟩ : ∃ q, shN D C b + H = q := ⟨_, rfl⟩
        rw [hq] at hcb he
        have hat := cell_of_row _ _ 0 _ _ (0, 0) hS.at_
        have hst := cell_of_row _ _ 0 _ _ (0, 0) hS.str
        have hwd := cell_of_row _ _ 0 _ _ (0, 0) hS.wds
        simp only [List.getElem?_toArray, List.getElem?_cons_zero, List.length_map] at hat hst hwd
        rw [hj] at hat
        have hfat : W.frozen? ⟨bc, 0, none⟩ = false := blk_frozen hS.at_ 0
        have hne : bc ≠ gb := fun h => by have h1 := hS.at_; rw [h, HRW.out] at h1; simp at h1
        have hlt1 := lt_of_block hS.at_
        have hlt2 := lt_of_block hS.str
        have hlt3 := lt_of_block hS.wds
        have hlt4 := hS.row.outer.2.1
        have hbsW : bs < W.heap.size := by have := hB.size; omega
        generalize nth ((wdF (fun b => shN D C b + H) xs (pre.map (·.1))).2 b) e = yj at *
        clear hS
        gi_wp2
        refine wpIn_region_qat (r := l) [] 10 [] (by kernel_rfl) (by kernel_rfl) (fun h => by obtain ⟨_, _, h⟩ := h; exact h) (by kernel_rfl) ?_
        intro hbc
        simp only [List.take_succ_cons, List.take_zero, List.drop_succ_cons, List.drop_zero]
        repeat (first
          | refine wpQ_pass rfl ?_
          | (refine wpQ_step rfl (fun K hK => ?_)
             go_simp
             first
               | (refine hK _ ?_; clear hK K)))
        refine wpQ_nil ⟨?_, ?_⟩
        · exact rfl
        intro  w2 hb2 hF2
        clear hbc
        obtain ⟨hc2, hf2⟩ := bcell hb2
        have hB2 : Below w.heap.size w w2 := below_then (by first | (go_grown; done) | (repeat (first | (with_reducible assumption) | (with_reducible exact Below.refl _ _) | (with_reducible refine below_drewN' ?_ _) | (with_reducible refine Below.drew ?_) | ((with_reducible refine Below.alloc ?_ ?_ _); rotate_left; focus (first | (simp; done) | (simp; omega) | omega)) | ((with_reducible refine Below.setCell ?_ ?_ _); rotate_left; focus (first | (simp; done) | (simp; omega) | omega))))) (by first | (simp; done) | (simp; omega) | omega) hb2
        clear hF2
        try simp only [Act.put, List.setIfInBounds_toArray, List.set_cons_succ, List.set_cons_zero]
        have HS2 := Lib.hid (HS.out.same (same_below hb2))
        have hat2 : w2.cell? ⟨bc, 0, none⟩ = some (.int .i64 j) := (hc2 _ _ hlt1).trans hat
        have hfat2 : w2.frozen? ⟨bc, 0, none⟩ = false := (hf2 _ _ hlt1).trans hfat
        have hcx2 : w2.cell? ⟨gb, e, none⟩ = some (.int .i64 yj) := (hc2 _ _ hgb).trans hcx
        have hfb2 : w2.frozen? ⟨gb, e, none⟩ = false := (hf2 _ _ hgb).trans hfb
        have hne' : gb ≠ bc := hne.symm
        obtain ⟨gb', -, -, hcb', -, -, hput, hrow2⟩ := HS2.out.row.look hb
        obtain rfl : gb = gb' := by
          rw [hc2 _ _ hlt4, hcb] at hcb'
          simp only [Option.some.injEq, Value.slice.injEq, Addr.mk.injEq, and_true] at hcb'
          exact hcb'.1
        have HP := Lib.hid (hput e xj)
        have HRW2 := Lib.hid hrow2
        clear hat hfat hcx hfb hst hwd hcb hxj hc2 hf2 hcb' hput hrow2
        go_wp2_with fail
        gi_wp2
        have k1 := HS2.out
        have hr1 := HRW2.out
        have a3 := box_other (k := e) (u := .int .i64 xj) k1.at_ hr1 (by decide)
        have l3 := box_other (k := e) (u := .int .i64 xj) k1.lay hr1 (by decide)
        have s3 := box_other (k := e) (u := .int .i64 xj) k1.str hr1 (by decide)
        have d3 := box_other (k := e) (u := .int .i64 xj) k1.wds hr1 (by decide)
        have l4 : LayAt _ (bc + 1) p k g D H C := box_other (k := 0) (u := .int .i64 ((j : Int) + 1)) l3 a3 (by decide)
        refine ⟨((keeps_below hb2).trans ((KeepsOthers.setCell _ _ _).from _)).trans ((KeepsOthers.setCell _ _ _).from _), ?_, ⟨l4, box_other s3 a3 (by decide), box_other d3 a3 (by decide), ?_, ?_⟩, ?_⟩
        · exact Eq.trans l4 (Eq.symm HS.out.lay)
        · have a4 := blk3_set (k := 0) (u := .int .i64 ((j : Int) + 1)) a3
          rw [a4]
          simp [hj]
        · refine (HP.out.other a3 (by decide) (by decide)).to fun i _ => ?_
          rw [List.map_append, List.map_cons, List.map_nil, wdF_snoc, wdF_fst, List.length_map, hj, HXE.out]
        · exact (hB2.setCell (p := ⟨gb, e, none⟩) hBgb _).setCell (p := ⟨bc, 0, none⟩) (by show w.heap.size ≤ bc; omega) _
      case done =>
        rintro E ys W hE hys ⟨hS, hB⟩ hKE
        have hwd := cell_of_row _ _ 0 _ _ (0, 0) hS.wds
        simp only [List.getElem?_toArray, List.getElem?_cons_zero] at hwd
        have HROW := Lib.hid hS.row
        rw [hys] at HROW
        have HB := Lib.hid hB
        clear hS hB
        have hs1 := hBW.out.size
        go_wp2_with fail
        refine ⟨by simp, .inl ⟨_, _, rfl, run_takeDeferred hKE, ?_⟩⟩
        refine ⟨_, results_tmp rfl _ _ _, _, rfl, ?_, ?_⟩
        · exact HROW.out.same (same_kept (grownBy_putObj' _ _ _) (fun r e => by cases e; exact ⟨_, hKE, rfl⟩))
        · exact HB.out.trans (belowK_b (w := w) (Nat.le_refl _) W E _ _ (by omega) hKE rfl rfl)
      case stop =>
        rintro D c pre W _ _ h _
        exact h.elim
end Go.Proofs.Ytbgcbjfimjfbpaa
