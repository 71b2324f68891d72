/-
  Contracts of chapter 8: the format word of a number.
-/
import Derived.Test.YtkdaodfhilhfgaaC08D
import Derived.Test.YtkdaodfhilhfgaaRegOwn
namespace Go.Proofs.Ytkdaodfhilhfgaa
open Go.RowKit

/-- The format word, and the code. -/
def fwC (d l p v : Int) : Int := if fcodeB d l p then (if inR v 0 (2 ^ d.toNat - 1) then 0 else 2) else 1
def fwL (d l p v : Int) : List Int := if fcodeB d l p then (if inR v 0 (2 ^ d.toNat - 1) then bitsL l.toNat (fword d.toNat l.toNat p.toNat v.toNat) else []) else []
theorem fw_no1 {d l p v : Int} (h : fcodeB d l p = false) : fwC d l p v = 1 ∧ fwL d l p v = [] := by unfold fwC fwL; simp [h]
theorem fw_no2 {D k P : Nat} {v : Int} (h : fcodeB D ((D : Int) + k) P = true) (h2 : inR v 0 (2 ^ D - 1) = false) : fwC D ((D : Int) + k) P v = 2 ∧ fwL D ((D : Int) + k) P v = [] := by
  unfold fwC fwL; simp [h, h2]
theorem fw_yes {D k P v : Nat} (h : fcodeB D ((D : Int) + k) P = true) (h2 : inR (v : Int) 0 (2 ^ D - 1) = true) :
    fwC D ((D : Int) + k) P v = 0 ∧ fwL D ((D : Int) + k) P v = bitsL (D + k) (fword D (D + k) P v) := by
  refine ⟨by unfold fwC; simp [h, h2], ?_⟩
  unfold fwL; simp only [h, Int.toNat_natCast, h2, if_true]
  rw [show ((D : Int) + k).toNat = D + k by omega]
theorem inR_pow {D : Nat} {v : Int} : (inR v 0 (2 ^ D - 1) = true ∧ ∃ V : Nat, v = V ∧ V < 2 ^ D) ∨ (inR v 0 (2 ^ D - 1) = false ∧ (v < 0 ∨ ∃ V : Nat, v = V ∧ ¬ V < 2 ^ D)) := by
  have e : ((2 ^ D : Nat) : Int) = (2 : Int) ^ D := by simp
  rw [← e]
  have hp := Nat.two_pow_pos D
  rcases inR_cases v 0 (((2 ^ D : Nat) : Int) - 1) with ⟨h, h1, h2⟩ | ⟨h, h1 | h1⟩
  · exact .inl ⟨h, v.toNat, by omega, by omega⟩
  · exact .inr ⟨h, .inl h1⟩
  · exact .inr ⟨h, .inr ⟨v.toNat, by omega, by omega⟩⟩
theorem fcodeB_mk' {D k P : Nat} (hD0 : 1 ≤ D) (hD : D ≤ 8) (hk0 : 1 ≤ k) (hk : D + k ≤ 24) (hp : polyOk P k) : fcodeB D ((D : Int) + k) P = true := fcodeB_mk hD0 hD hk0 hk hp
set_option maxHeartbeats 1000000 in
theorem sFormatWord_any (d l p v : Int) (w : World) (hl : -9223372036854775808 ≤ l ∧ l ≤ 9223372036854775807) :
    Calls Try.prog 11 #[.agg #[.int .i64 d, .int .i64 l, .int .i64 p], .int .i64 v] w fun e w' =>
      ∃ v', e = .returned (.tuple #[v', .int .i64 (fwC d l p v)]) ∧ Own w' w.heap.size v' (fwL d l p v) ∧ Below w.heap.size w w' := by
  cases hc : fcodeB d l p
  · obtain ⟨e1, e2⟩ := fw_no1 (v := v) hc
    rw [e1, e2]
    clear e1 e2
    go_enter Try.func11, Try.ntmps11
    go_wp2_with (go_at_call 30; go_call (sIsFormatCode_any _ _ _ _ hl) as e1 w1 ⟨rfl, hb1⟩; obtain ⟨hc1, hf1⟩ := bcell hb1; have hB1 : Below w.heap.size w w1 := (below_then (by first | (go_grown; done) | (repeat (first | (with_reducible assumption) | (with_reducible exact Below.refl _ _) | (with_reducible refine below_drewN' ?_ _) | (with_reducible refine Below.drew ?_) | ((with_reducible refine Below.alloc ?_ ?_ _); rotate_left; focus (first | (simp; done) | (simp; omega) | omega)) | ((with_reducible refine Below.setCell ?_ ?_ _); rotate_left; focus (first | (simp; done) | (simp; omega) | omega))))) (by first | omega | (simp; done) | (simp; omega)) hb1); have hz1a : w.heap.size < w1.heap.size := (by have := hb1.size; first | omega | (simp at this; omega)))
    go_ret2
    exact ⟨_, rfl, Own.nil, hB1⟩
  · obtain ⟨D, k, P, rfl, rfl, rfl, hD0, hD, hk0, hk, hDk, hp⟩ := fcodeB_true hc
    have HP := Lib.hid hp
    clear hp
    have hpw := pow_bd (k := D) (by omega)
    rcases inR_pow (D := D) (v := v) with ⟨h2, V, rfl, hV⟩ | ⟨h2, _⟩
    · obtain ⟨e1, e2⟩ := fw_yes hc h2
      rw [e1, e2]
      clear e1 e2
      have HV := Lib.hid hV
      clear hV
      go_enter Try.func11, Try.ntmps11
      go_wp2_with first | (go_at_call 30; go_call (sIsFormatCode_any _ _ _ _ hl) as e1 w1 ⟨rfl, hb1⟩; obtain ⟨hc1, hf1⟩ := bcell hb1; have hB1 : Below w.heap.size w w1 := (below_then (by first | (go_grown; done) | (repeat (first | (with_reducible assumption) | (with_reducible exact Below.refl _ _) | (with_reducible refine below_drewN' ?_ _) | (with_reducible refine Below.drew ?_) | ((with_reducible refine Below.alloc ?_ ?_ _); rotate_left; focus (first | (simp; done) | (simp; omega) | omega)) | ((with_reducible refine Below.setCell ?_ ?_ _); rotate_left; focus (first | (simp; done) | (simp; omega) | omega))))) (by first | omega | (simp; done) | (simp; omega)) hb1); have hz1a : w.heap.size < w1.heap.size := (by have := hb1.size; first | omega | (simp at this; omega))) | (go_at_call 37; refine (l01In_any _ _ _ _).mono ?_; rintro e w' ⟨rfl, rfl⟩) | (go_at_call 38; refine (l08Word_any D k P V _ hD0 hD hk0 hk HP.out HV.out).mono ?_; rintro e2 w2 ⟨v2, rfl, ho2, hb2⟩; have HO2 := Lib.hid (ho2.more hB1.size); have HB2 := Lib.hid (below_then hB1 hB1.size hb2); clear ho2 hb2)
      go_ret2
      exact ⟨_, rfl, HO2.out, HB2.out⟩
    · obtain ⟨e1, e2⟩ := fw_no2 hc h2
      rw [e1, e2]
      clear e1 e2
      go_enter Try.func11, Try.ntmps11
      go_wp2_with first | (go_at_call 30; go_call (sIsFormatCode_any _ _ _ _ hl) as e1 w1 ⟨rfl, hb1⟩; obtain ⟨hc1, hf1⟩ := bcell hb1; have hB1 : Below w.heap.size w w1 := (below_then (by first | (go_grown; done) | (repeat (first | (with_reducible assumption) | (with_reducible exact Below.refl _ _) | (with_reducible refine below_drewN' ?_ _) | (with_reducible refine Below.drew ?_) | ((with_reducible refine Below.alloc ?_ ?_ _); rotate_left; focus (first | (simp; done) | (simp; omega) | omega)) | ((with_reducible refine Below.setCell ?_ ?_ _); rotate_left; focus (first | (simp; done) | (simp; omega) | omega))))) (by first | omega | (simp; done) | (simp; omega)) hb1); have hz1a : w.heap.size < w1.heap.size := (by have := hb1.size; first | omega | (simp at this; omega))) | (go_at_call 37; refine (l01In_any _ _ _ _).mono ?_; rintro e w' ⟨rfl, rfl⟩)
      go_ret2
      exact ⟨_, rfl, Own.nil, hB1⟩
set_option maxHeartbeats 1000000 in
theorem FormatWord_any (d l p v : Int) (w : World) (hl : -9223372036854775808 ≤ l ∧ l ≤ 9223372036854775807) :
    Calls Try.prog 13 #[.agg #[.int .i64 d, .int .i64 l, .int .i64 p], .int .i64 v] w fun e w' =>
      ∃ v', e = .returned (.tuple #[v', .int .i64 (fwC d l p v)]) ∧ Own w' w.heap.size v' (fwL d l p v) ∧ Below w.heap.size w w' := by
  cases hc : fcodeB d l p
  · obtain ⟨e1, e2⟩ := fw_no1 (v := v) hc
    rw [e1, e2]
    clear e1 e2
    go_enter Try.func13, Try.ntmps13
    go_wp2_with (go_at_call 29; go_call (IsFormatCode_any _ _ _ _ hl) as e1 w1 ⟨rfl, hb1⟩; obtain ⟨hc1, hf1⟩ := bcell hb1; have hB1 : Below w.heap.size w w1 := (below_then (by first | (go_grown; done) | (repeat (first | (with_reducible assumption) | (with_reducible exact Below.refl _ _) | (with_reducible refine below_drewN' ?_ _) | (with_reducible refine Below.drew ?_) | ((with_reducible refine Below.alloc ?_ ?_ _); rotate_left; focus (first | (simp; done) | (simp; omega) | omega)) | ((with_reducible refine Below.setCell ?_ ?_ _); rotate_left; focus (first | (simp; done) | (simp; omega) | omega))))) (by first | omega | (simp; done) | (simp; omega)) hb1); have hz1a : w.heap.size < w1.heap.size := (by have := hb1.size; first | omega | (simp at this; omega)))
    go_ret2
    exact ⟨_, rfl, Own.nil, hB1⟩
  · obtain ⟨D, k, P, rfl, rfl, rfl, hD0, hD, hk0, hk, hDk, hp⟩ := fcodeB_true hc
    have HP := Lib.hid hp
    have hpw := pow_bd (k := D) (by omega)
    rcases inR_pow (D := D) (v := v) with ⟨h2, V, rfl, hV⟩ | ⟨h2, h3⟩
    · obtain ⟨e1, e2⟩ := fw_yes hc h2
      rw [e1, e2]
      clear e1 e2
      have HV := Lib.hid hV
      have hfl := fword_lt (D := D) (L := D + k) (P := P) (v := V) (by omega) (by rw [Nat.add_sub_cancel_left]; exact hp) hV
      have hf62 : fword D (D + k) P V < 4611686018427387904 := by
        have hle : 2 ^ (D + k) ≤ 2 ^ 24 := Nat.pow_le_pow_right (by decide) (by omega)
        omega
      have hsh : ((V : Int) / 2 ^ D != 0) = false := by
        have : ((V : Int) / 2 ^ D) = ((V / 2 ^ D : Nat) : Int) := by simp
        rw [this, Nat.div_eq_of_lt hV]; rfl
      have HN := Lib.hid (fun w => number_any D k P V w hD0 hD hk0 hk hp hV)
      have HA := Lib.hid (fun w => appendNumber_any (.slice none 0 0) [] (fword D (D + k) P V) (D + k) w w.heap.size Own.nil (Nat.le_refl _) (by simp) (by omega) hf62)
      clear hV hfl hf62 hp
      go_enter Try.func13, Try.ntmps13
      go_wp2_with first | (go_at_call 29; go_call (IsFormatCode_any _ _ _ _ hl) as e1 w1 ⟨rfl, hb1⟩; obtain ⟨hc1, hf1⟩ := bcell hb1; have hB1 : Below w.heap.size w w1 := (below_then (by first | (go_grown; done) | (repeat (first | (with_reducible assumption) | (with_reducible exact Below.refl _ _) | (with_reducible refine below_drewN' ?_ _) | (with_reducible refine Below.drew ?_) | ((with_reducible refine Below.alloc ?_ ?_ _); rotate_left; focus (first | (simp; done) | (simp; omega) | omega)) | ((with_reducible refine Below.setCell ?_ ?_ _); rotate_left; focus (first | (simp; done) | (simp; omega) | omega))))) (by first | omega | (simp; done) | (simp; omega)) hb1); have hz1a : w.heap.size < w1.heap.size := (by have := hb1.size; first | omega | (simp at this; omega)))
      refine wp_region_qat [23] 6 [Mkr.own (bitsL (D + k) (fword D (D + k) P V))] (by kernel_rfl) (by kernel_rfl) ?_
      intro hbc
      simp only [List.take_succ_cons, List.take_zero, List.drop_succ_cons, List.drop_zero]
      repeat (first
        | refine wpQ_pass rfl ?_
        | (refine wpQ_step rfl (fun K hK => ?_)
           go_simp
           first
             | (refine hK _ ?_; clear hK K)
             | (apply Exists.intro
                refine ⟨fun z => ?_, ?_⟩
                focus (first | (go_at_call 40; exact HN.out _))
                refine hK _ ?_
                clear hK K)))
      refine wpQ_nil ⟨?_, ?_⟩
      · refine ⟨fun z => ?_, rfl⟩
        · go_simp
          go_at_call 39
          exact own_call (HA.out _)
      intro v2a g2a hi2a hg2a hl2a n2a w2 hb2 hF2
      clear hbc
      obtain ⟨hc2, hf2⟩ := bcell hb2
      obtain ⟨_, hs2a, ⟨hr2a, hq2a⟩⟩ := hF2
      have hB2 : Below w.heap.size w w2 := below_then (by first | (go_grown; done) | (repeat (first | (with_reducible assumption) | (with_reducible exact Below.refl _ _) | (with_reducible refine below_drewN' ?_ _) | (with_reducible refine Below.drew ?_) | ((with_reducible refine Below.alloc ?_ ?_ _); rotate_left; focus (first | (simp; done) | (simp; omega) | omega)) | ((with_reducible refine Below.setCell ?_ ?_ _); rotate_left; focus (first | (simp; done) | (simp; omega) | omega))))) (by first | (simp; done) | (simp; omega) | omega) hb2
      have hz2a : w.heap.size < w2.heap.size := (by have := hb2.size; first | omega | (simp at this; omega))
      clear n2a
      try simp only [Act.put, List.setIfInBounds_toArray, List.set_cons_succ, List.set_cons_zero]
      go_wp2_with fail
      go_ret2
      exact ⟨_, rfl, hr2a.more (by omega), hB2⟩
    · obtain ⟨e1, e2⟩ := fw_no2 hc h2
      rw [e1, e2]
      clear e1 e2 hp
      rcases h3 with h3 | ⟨V, rfl, hV⟩
      · go_enter Try.func13, Try.ntmps13
        go_wp2_with first | (go_at_call 29; go_call (IsFormatCode_any _ _ _ _ hl) as e1 w1 ⟨rfl, hb1⟩; obtain ⟨hc1, hf1⟩ := bcell hb1; have hB1 : Below w.heap.size w w1 := (below_then (by first | (go_grown; done) | (repeat (first | (with_reducible assumption) | (with_reducible exact Below.refl _ _) | (with_reducible refine below_drewN' ?_ _) | (with_reducible refine Below.drew ?_) | ((with_reducible refine Below.alloc ?_ ?_ _); rotate_left; focus (first | (simp; done) | (simp; omega) | omega)) | ((with_reducible refine Below.setCell ?_ ?_ _); rotate_left; focus (first | (simp; done) | (simp; omega) | omega))))) (by first | omega | (simp; done) | (simp; omega)) hb1); have hz1a : w.heap.size < w1.heap.size := (by have := hb1.size; first | omega | (simp at this; omega)))
        go_ret2
        exact ⟨_, rfl, Own.nil, hB1⟩
      · have hsh : ((V : Int) / 2 ^ D != 0) = true := by
          have : ((V : Int) / 2 ^ D) = ((V / 2 ^ D : Nat) : Int) := by simp
          rw [this]
          have h4 : 0 < V / 2 ^ D := Nat.div_pos (by omega) (Nat.two_pow_pos _)
          simp; omega
        clear hV
        go_enter Try.func13, Try.ntmps13
        go_wp2_with first | (go_at_call 29; go_call (IsFormatCode_any _ _ _ _ hl) as e1 w1 ⟨rfl, hb1⟩; obtain ⟨hc1, hf1⟩ := bcell hb1; have hB1 : Below w.heap.size w w1 := (below_then (by first | (go_grown; done) | (repeat (first | (with_reducible assumption) | (with_reducible exact Below.refl _ _) | (with_reducible refine below_drewN' ?_ _) | (with_reducible refine Below.drew ?_) | ((with_reducible refine Below.alloc ?_ ?_ _); rotate_left; focus (first | (simp; done) | (simp; omega) | omega)) | ((with_reducible refine Below.setCell ?_ ?_ _); rotate_left; focus (first | (simp; done) | (simp; omega) | omega))))) (by first | omega | (simp; done) | (simp; omega)) hb1); have hz1a : w.heap.size < w1.heap.size := (by have := hb1.size; first | omega | (simp at this; omega)))
        go_ret2
        exact ⟨_, rfl, Own.nil, hB1⟩
end Go.Proofs.Ytkdaodfhilhfgaa
