/-
  The laws' own words on slices of slices of numbers: equal, marked, held.
-/
import Derived.Test.YtbgcbjfimjfbpaaWds
import Derived.Test.YtbgcbjfimjfbpaaSlice
import Derived.Test.YtbgcbjfimjfbpaaRegion
import Derived.Test.YtbgcbjfimjfbpaaBlk
namespace Go.Proofs.Ytbgcbjfimjfbpaa
set_option linter.unusedSimpArgs false
open Go.RowKit

theorem RowAt.own {w : World} {B g : Nat} {xs : List Int} (h : RowAt w g 2 xs) (hB : B ≤ g) (hn : xs.length ≤ 1000000) : Own w B (.slice (some ⟨g, 0, none⟩) xs.length xs.length) xs := by
  refine ⟨by simp, .inr ⟨g, xs.length, _, rfl, hB, h, Nat.le_refl _, by unfold maxLen; omega, by simp, ?_⟩⟩
  rw [Nat.mul_one, List.take_of_length_le (by simp)]
theorem Own.rowAt {w : World} {B g n : Nat} {xs : List Int} (h : Own w B (.slice (some ⟨g, 0, none⟩) n n) xs) (hn : xs.length = n) : RowAt w g 2 xs := by
  rcases h.2 with ⟨h', _⟩ | ⟨g', cap, cur, h', hB, hg, h1, h2, h3, h4⟩
  · simp at h'
  · simp only [Value.slice.injEq, Option.some.injEq, Addr.mk.injEq, and_true, true_and] at h'
    obtain ⟨rfl, -, rfl⟩ := h'
    unfold RowAt
    rw [hg]
    have e : cur = (xs.map (Value.int .i64)).toArray := by
      apply Array.ext'
      rw [← h4, hn, List.take_of_length_le (by rw [Array.length_toList, h3]; exact Nat.le_refl _)]
    rw [e]
theorem WdG.turn {w w' : World} {B g n c K b : Nat} {gs : Nat → Nat} {wv : Nat → List Int} {ys : List Int} (h : WdG w B g n c K gs wv) (hb : b < K) (hg : w.grownBy w' (some (gs b))) (hr : RowAt w' (gs b) 2 ys) (hl : ys.length = (wv b).length) :
    WdG w' B g n c K gs (updW wv b ys) := by
  refine ⟨h.le, ?_, fun i hi => ⟨(h.rows i hi).1, ?_⟩, h.ap⟩
  · rw [← wVs_congr (gs := gs) (gs' := gs) (wv := wv) (fun _ _ => rfl) (fun i hi => by
      by_cases e : i = b
      · subst e; rw [updW_same, hl]
      · rw [updW_other e])]
    refine World.ownsRow.kept h.row hg (.inr ?_)
    simp only [Value.ownBlock, ne_eq, Option.some.injEq]
    rintro e
    obtain ⟨cur, hcur⟩ := h.of.outer.2.2.2
    have := (h.rows b hb).2
    unfold RowAt at this
    rw [← e, hcur] at this
    simp at this
  · by_cases e : i = b
    · subst e; rw [updW_same]; exact hr
    · rw [updW_other e]
      refine RowAt.of (hg.block _ (h.rows i hi).2.lt ?_) (h.rows i hi).2
      simp only [ne_eq, Option.some.injEq]
      rcases Nat.lt_or_gt_of_ne e with hl | hl
      · exact h.ap i b hl hb
      · exact (h.ap b i hl hi).symm
theorem Wds.grownLt {w w' : World} {B g n c K k : Nat} {wv : Nat → List Int} (h : Wds w B g n c K wv) (hg : w.grownBy w' (some k)) (hk : k < B) : Wds w' B g n c K wv := by
  obtain ⟨gs, h1, h2, h3⟩ := h.ex
  refine ⟨h.le, gs, World.ownsRow.kept h1 hg (.inr ?_), fun b hb => ⟨(h2 b hb).1, RowAt.of (hg.block _ (h2 b hb).2.lt ?_) (h2 b hb).2⟩, h3⟩
  · have := (World.ownsRow.lt h1 g rfl).1
    simp only [Value.ownBlock, ne_eq, Option.some.injEq]; omega
  · have := (h2 b hb).1
    simp only [ne_eq, Option.some.injEq]; omega

/-- Words, or nothing. -/
def SpV (w : World) (B : Nat) (v : Value) (n : Nat) (wv : Nat → List Int) : Prop := (n = 0 ∧ v = .slice none 0 0) ∨ ∃ g c, 0 < n ∧ v = .slice (some ⟨g, 0, none⟩) n c ∧ Wds w B g n c n wv
theorem SpV.keep {w w' : World} {B n : Nat} {v : Value} {wv : Nat → List Int} (h : SpV w B v n wv) (hb : Below w.heap.size w w') : SpV w' B v n wv :=
  h.imp id fun ⟨g, c, h1, h2, h3⟩ => ⟨g, c, h1, h2, h3.keep hb⟩
theorem SpV.grownLt {w w' : World} {B n k : Nat} {v : Value} {wv : Nat → List Int} (h : SpV w B v n wv) (hg : w.grownBy w' (some k)) (hk : k < B) : SpV w' B v n wv :=
  h.imp id fun ⟨g, c, h1, h2, h3⟩ => ⟨g, c, h1, h2, h3.grownLt hg hk⟩
def offN (ln : Nat → Nat) : Nat → Nat
  | 0 => 0
  | b + 1 => offN ln b + ln b
theorem offN_le {ln : Nat → Nat} (h : ∀ b, ln b ≤ 2000) : ∀ b, offN ln b ≤ 2000 * b
  | 0 => Nat.le_refl _
  | b + 1 => by have := offN_le h b; have := h b; unfold offN; omega
def mkW (m : Int) (ln : Nat → Nat) : Nat → List Int := fun b => marks (m + offN ln b) (ln b)
theorem mkW_len (m : Int) (ln : Nat → Nat) (b : Nat) : (mkW m ln b).length = ln b := marks_len _ _
theorem own_of_row {w : World} {B g q : Nat} {xs : List Int} (h : RowAt w g 2 xs) (hB : B ≤ g) (hq : xs.length = q) (hn : q ≤ 1000000) : Own w B (.slice (some ⟨g, 0, none⟩) q q) xs := by
  subst hq; exact h.own hB hn

set_option maxHeartbeats 4000000 in
theorem eqInt64SS_same (v1 v2 : Value) (n : Nat) (wv : Nat → List Int) (w : World) (B1 B2 : Nat) (h1 : SpV w B1 v1 n wv) (h2 : SpV w B2 v2 n wv) (hn : n ≤ 100) (hl : ∀ b, (wv b).length ≤ 2000) :
    Calls Try.prog 38 #[v1, v2] w fun e w' => e = .returned (.bool true) ∧ Below w.heap.size w w' := by
  rcases h1 with ⟨h0, rfl⟩ | ⟨g1, c1, hp, rfl, hw1⟩
  · rcases h2 with ⟨-, rfl⟩ | ⟨g2, c2, hp, rfl, hw2⟩
    · go_enter Try.func38, Try.ntmps38
      go_wp2_with fail
      refine wp_loop_rounds 1 ?_
      rw [rounds_succ]
      go_wp2_with fail
      go_ret
      exact ⟨rfl, Below.refl _ _⟩
    · omega
  · rcases h2 with ⟨h0, rfl⟩ | ⟨g2, c2, -, rfl, hw2⟩
    · omega
    · have H1 := Lib.hid hw1
      have H2 := Lib.hid hw2
      have HL := Lib.hid hl
      clear hw1 hw2 hl
      have hnn : ((n : Int) != (n : Int)) = false := by simp
      go_enter Try.func38, Try.ntmps38
      go_wp2_with fail
      go_loopw [5] (fun i wr => ∃ k : Nat, k ≤ n ∧ i = .int .i64 k ∧ Hid (Below w.heap.size w wr)) (fun i _ => n - (intOf i).toNat)
      case atStart => exact ⟨0, Nat.zero_le _, rfl, Below.refl _ _⟩
      case round =>
        obtain ⟨k, hk, rfl, hbel⟩ := hrel
        have hbw := hbel.out
        by_cases hlt : k < n
        · obtain ⟨a1, -, hg1, ha1, -, -, -, hr1⟩ := (H1.out.keep hbw).look hlt
          obtain ⟨a2, -, hg2, ha2, -, -, -, hr2⟩ := (H2.out.keep hbw).look hlt
          have ho1 := (H1.out.keep hbw).outer.2.1
          have ho2 := (H2.out.keep hbw).outer.2.1
          have HE : Hid (∀ w', Below wr.heap.size wr w' → Calls Try.prog 35 #[.slice (some ⟨a1, 0, none⟩) (wv k).length (wv k).length, .slice (some ⟨a2, 0, none⟩) (wv k).length (wv k).length] w' fun e w'' => e = .returned (.bool true) ∧ Below w'.heap.size w' w'') := Lib.hid (fun w' hb => by
            refine (eqInt64S_any (some ⟨a1, 0, none⟩) (some ⟨a2, 0, none⟩) (wv k).length (wv k).length (wv k).length (wv k).length (wv k) (wv k) w' wr.heap.size wr.heap.size ((hr1.RI hg1 rfl).below hb) ((hr2.RI hg2 rfl).below hb) (by have := HL.out k; omega) (by have := HL.out k; omega)).mono ?_
            rintro e w'' ⟨rfl, m, rfl⟩
            exact ⟨ret_bool (by simp), below_drewN' (Below.refl _ _) _⟩)
          obtain ⟨q, hq⟩ : ∃ q, (wv k).length = q := ⟨_, rfl⟩
          rw [hq] at ha1 ha2 HE
          have hsw := hbw.size
          clear hr1 hr2 hq
          go_wp2_with fail
          refine wp_region_qat [] 9 [] (by kernel_rfl) (by kernel_rfl) ?_
          intro hbc
          simp only [List.take_succ_cons, List.take_zero, List.drop_succ_cons, List.drop_zero]
          repeat (first
            | refine wpQ_pass rfl ?_
            | (refine wpQ_step rfl (fun K hK => ?_)
               go_simp
               first
                 | (refine hK _ ?_; clear hK K)
                 | (apply Exists.intro
                    refine ⟨fun z => ?_, ?_⟩
                    focus (first | (go_at_call 35; exact HE.out _ z.below))
                    refine hK _ ?_
                    clear hK K)))
          refine wpQ_nil ⟨?_, ?_⟩
          · exact rfl
          intro  w3 hb3 hF3
          clear hbc
          obtain ⟨hc3, hf3⟩ := bcell hb3
          have hB3 : Below w.heap.size w w3 := below_then (by first | (go_grown; done) | (repeat (first | (with_reducible assumption) | (with_reducible exact Below.refl _ _) | (with_reducible refine below_drewN' ?_ _) | (with_reducible refine Below.drew ?_) | ((with_reducible refine Below.alloc ?_ ?_ _); rotate_left; focus (first | (simp; done) | (simp; omega) | omega)) | ((with_reducible refine Below.setCell ?_ ?_ _); rotate_left; focus (first | (simp; done) | (simp; omega) | omega))))) (by first | (simp; done) | (simp; omega) | omega) hb3
          clear hF3
          try simp only [Act.put, List.setIfInBounds_toArray, List.set_cons_succ, List.set_cons_zero]
          clear ha1 ha2 hc3 hf3
          go_wp2_with fail
          go_roundw
          case rel => exact ⟨k + 1, by omega, by go_num, hB3⟩
          case measure => simp [intOf]; omega
        · go_wp2_with fail
          go_ret
          exact ⟨rfl, hbw⟩
set_option maxHeartbeats 4000000 in
theorem markInt64SS_any (v : Value) (n : Nat) (wv : Nat → List Int) (ln : Nat → Nat) (w : World) (B : Nat) (h : SpV w B v n wv) (hn : n ≤ 100) (hln : ∀ b, (wv b).length = ln b) (hl : ∀ b, ln b ≤ 2000) (hB : B ≤ w.heap.size) :
    Calls Try.prog 40 #[v, .int .i64 1] w fun e w' => e = .returned (.int .i64 (1 + offN ln n)) ∧ SpV w' B v n (mkW 1 ln) ∧ Below B w w' := by
  rcases h with ⟨rfl, rfl⟩ | ⟨g, c, hp, rfl, hw⟩
  · go_enter Try.func40, Try.ntmps40
    go_wp2_with fail
    refine wp_loop_rounds 1 ?_
    rw [rounds_succ]
    go_wp2_with fail
    go_ret
    exact ⟨rfl, .inl ⟨rfl, rfl⟩, Below.refl _ _⟩
  · obtain ⟨gs, hg⟩ := hw.toG
    have HL := Lib.hid hl
    have HLN := Lib.hid hln
    have HG := Lib.hid hg
    have HOF := Lib.hid (offN_le hl)
    clear hw hg hl hln
    go_enter Try.func40, Try.ntmps40
    go_wp2_with fail
    go_loopw [1, 5] (fun q i wr => ∃ k : Nat, k ≤ n ∧ i = .int .i64 k ∧ q = .int .i64 (1 + (offN ln k : Nat)) ∧ Hid (WdG wr B g n c n gs (fun b => if b < k then mkW 1 ln b else wv b)) ∧ Hid (Below B w wr)) (fun _ i _ => n - (intOf i).toNat)
    case atStart => exact ⟨0, Nat.zero_le _, rfl, rfl, Lib.hid HG.out, Lib.hid (Below.refl _ _)⟩
    case round =>
      obtain ⟨k, hk, rfl, rfl, HK, HB⟩ := hrel
      by_cases hlt : k < n
      · obtain ⟨ha, -, -, -⟩ := HK.out.look hlt
        obtain ⟨hrB, hrr⟩ := HK.out.rows k hlt
        simp only [Nat.lt_irrefl, if_false] at ha hrr
        have hq1 := HL.out k
        have hqe := HLN.out k
        have hof := HOF.out k
        rw [hqe] at ha
        have HM := Lib.hid (markInt64S_any _ (wv k) (1 + (offN ln k : Nat)) wr B (own_of_row hrr hrB hqe (by omega)) (by rw [hqe]; omega) (by omega) (by omega))
        have HOS : Hid ((offN ln (k + 1) : Nat) = offN ln k + ln k) := Lib.hid rfl
        have HMK : Hid (mkW 1 ln k = marks (1 + (offN ln k : Nat)) (ln k)) := Lib.hid rfl
        rw [hqe] at HM
        have HQ := Lib.hid hqe
        generalize ln k = q at *
        generalize offN ln k = o at *
        clear hrr hqe
        go_wp2_with (go_at_call 39; with_reducible refine HM.out.mono ?_; rintro e3 w3 ⟨rfl, ho3, hg3⟩; have HO3 := Lib.hid ho3; have HG3 := Lib.hid hg3; clear ho3 hg3)
        go_roundw
        case rel =>
          refine ⟨k + 1, by omega, by go_num, by rw [HOS.out, Int.natCast_add]; simp only [Int.add_assoc], Lib.hid ?_, Lib.hid ?_⟩
          · have h1 := HK.out.turn hlt HG3.out (Own.rowAt HO3.out (marks_len _ _)) (by simp only [Nat.lt_irrefl, if_false]; rw [marks_len, HQ.out])
            have e : updW (fun b => if b < k then mkW 1 ln b else wv b) k (marks (1 + (o : Nat)) q) = fun b => if b < k + 1 then mkW 1 ln b else wv b := by
              funext b
              by_cases h : b = k
              · subst h; rw [updW_same, if_pos (by omega), HMK.out]
              · rw [updW_other h]
                by_cases h2 : b < k
                · rw [if_pos h2, if_pos (by omega)]
                · rw [if_neg h2, if_neg (by omega)]
            rw [← e]; exact h1
          · exact HB.out.grown HG3.out (Nat.le_trans hB HB.out.size) (fun j hj => by cases hj; exact hrB)
        case measure => simp [intOf]; omega
      · obtain rfl : n = k := by omega
        have HF : Hid (SpV wr B (.slice (some ⟨g, 0, none⟩) n c) n (mkW 1 ln)) := Lib.hid (.inr ⟨g, c, hp, rfl, HK.out.of.to (fun b hb => by simp only [if_pos hb])⟩)
        go_wp2_with fail
        go_ret
        exact ⟨rfl, HF.out, HB.out⟩
set_option maxHeartbeats 4000000 in
theorem heldInt64SS_any (v : Value) (n : Nat) (ln : Nat → Nat) (w : World) (B : Nat) (h : SpV w B v n (mkW 1 ln)) (hn : n ≤ 100) (hl : ∀ b, ln b ≤ 2000) :
    Calls Try.prog 41 #[v, .int .i64 1] w fun e w' => e = .returned (.int .i64 (1 + offN ln n)) ∧ w = w' := by
  rcases h with ⟨rfl, rfl⟩ | ⟨g, c, hp, rfl, hw⟩
  · go_enter Try.func41, Try.ntmps41
    go_wp2_with fail
    refine wp_loop_rounds 1 ?_
    rw [rounds_succ]
    go_wp2_with fail
    go_ret
    exact ⟨rfl, rfl⟩
  · have HL := Lib.hid hl
    have HW := Lib.hid hw
    have HOF := Lib.hid (offN_le hl)
    clear hw hl
    go_enter Try.func41, Try.ntmps41
    go_wp2_with fail
    go_loop [1, 5] (fun q i => ∃ k : Nat, k ≤ n ∧ i = .int .i64 k ∧ q = .int .i64 (1 + (offN ln k : Nat))) (fun _ i => n - (intOf i).toNat)
    case atStart => exact ⟨0, Nat.zero_le _, rfl, rfl⟩
    case round =>
      obtain ⟨k, hk, rfl, rfl⟩ := hrel
      by_cases hlt : k < n
      · obtain ⟨gb, hBg, -, ha, -, -, -, hrr⟩ := HW.out.look hlt
        have hq1 := HL.out k
        have hof := HOF.out k
        rw [mkW_len] at ha
        have HM := Lib.hid (heldInt64S_any _ (ln k) (1 + (offN ln k : Nat)) w B (own_of_row hrr hBg (mkW_len _ _ _) (by omega)) (by omega) (by omega) (by omega))
        have HOS : Hid ((offN ln (k + 1) : Nat) = offN ln k + ln k) := Lib.hid rfl
        have h5 : ¬ (1 + (offN ln k : Int) + (ln k : Int)) < 0 := by omega
        generalize ln k = q at *
        generalize offN ln k = o at *
        clear hrr
        go_wp2_with (go_at_call 85; with_reducible refine HM.out.mono ?_; rintro e3 w3 ⟨rfl, rfl⟩)
        go_round
        case rel => exact ⟨k + 1, by omega, by go_num, by rw [HOS.out, Int.natCast_add]; simp only [Int.add_assoc]⟩
        case measure => simp [intOf]; omega
      · obtain rfl : n = k := by omega
        go_wp2_with fail
        go_ret
        exact ⟨rfl, rfl⟩
end Go.Proofs.Ytbgcbjfimjfbpaa
