/-
  Finder sections: the reference's test. Printed by gen/sec2.py.
-/
import Derived.Test.YtkipaefhnmfebaaMfa
import Derived.Test.YtkipaefhnmfebaaC01
namespace Go.Proofs.Ytkipaefhnmfebaa
set_option linter.unusedSimpArgs false
open Go.RowKit

theorem nil_or_snoc {α : Type} (L : List α) : L = [] ∨ ∃ E q, L = E ++ [q] := by
  rcases List.eq_nil_or_concat L with h | ⟨E, q, h⟩
  · exact .inl h
  · exact .inr ⟨E, q, by rw [h, List.concat_eq_append]⟩
theorem rnX_mem {L : List RnT} {i : Nat} {d : Bool} (h : ∀ r ∈ L, r.s + r.l ≤ i) : ∀ r ∈ rnX L i d, r.s + r.l ≤ i + 1 := by
  intro r hr
  rcases nil_or_snoc L with rfl | ⟨E, q, rfl⟩
  · rw [rnX_nil, List.mem_singleton] at hr; subst hr; simp
  · by_cases hd : q.d = d
    · rw [rnX_same hd] at hr
      rcases List.mem_append.1 hr with hr | hr
      · have := h r (List.mem_append_left _ hr); omega
      · rw [List.mem_singleton] at hr; subst hr
        have := h q (List.mem_append_right _ (List.mem_singleton.2 rfl))
        simp only; omega
    · rw [rnX_other hd] at hr
      rcases List.mem_append.1 hr with hr | hr
      · have := h r hr; omega
      · rw [List.mem_singleton] at hr; subst hr; simp
theorem rnS_mem (xs : List Int) : ∀ i, ∀ r ∈ rnS xs i, r.s + r.l ≤ i
  | 0 => fun r hr => by cases hr
  | i + 1 => rnX_mem (rnS_mem xs i)
theorem flatC_len (L : List RnT) : (flatC L).length = L.length * 3 := by
  unfold flatC
  induction L with
  | nil => rfl
  | cons r L ih => rw [List.flatMap_cons, List.length_append, ih, List.length_cons]; simp [runC]; omega
/-- The last run of an owned list. -/
theorem OwnR.last {w : World} {B : Nat} {v : Value} {E : List RnT} {r : RnT} (h : OwnR w B v (E ++ [r])) : ∃ g c, v = .slice (some ⟨g, 0, none⟩) (E.length + 1) c ∧ B ≤ g ∧ g < w.heap.size ∧
    w.cell? ⟨g, E.length * 3 + 1, none⟩ = some (.int .i64 (r.l : Nat)) ∧ w.cell? ⟨g, E.length * 3 + 2, none⟩ = some (.bool r.d) ∧ (∀ k, w.frozen? ⟨g, k, none⟩ = false) ∧
    OwnR (w.setCell ⟨g, E.length * 3 + 1, none⟩ (.int .i64 ((r.l : Int) + 1))) B (.slice (some ⟨g, 0, none⟩) (E.length + 1) c) (E ++ [⟨r.s, r.l + 1, r.d⟩]) := by
  have h0 := h
  unfold OwnR at h
  rw [List.length_append, List.length_singleton, flatC_snoc] at h
  obtain ⟨g, c, rfl⟩ := ownsRow_succ h
  have hl := World.ownsRow.lt h g rfl
  have hf := flatC_len E
  refine ⟨g, c, rfl, hl.1, hl.2, ?_, ?_, fun k => h.frozenAt k, ?_⟩
  · rw [h.cellAt _ (by omega), List.getElem?_append_right (by omega), hf]; simp [runC]
  · rw [h.cellAt _ (by omega), List.getElem?_append_right (by omega), hf]; simp [runC]
  · have h1 := (World.ownsRow.stored h (E.length * 3 + 1) (.int .i64 ((r.l : Int) + 1))).1
    unfold OwnR
    rw [List.length_append, List.length_singleton, flatC_snoc]
    have e : (flatC E ++ runC r).set (E.length * 3 + 1) (.int .i64 ((r.l : Int) + 1)) = flatC E ++ runC ⟨r.s, r.l + 1, r.d⟩ := by
      rw [List.set_append_right _ _ (by omega), hf]; simp [runC]
    rw [← e]; exact h1
theorem OwnR.to {w : World} {B : Nat} {v : Value} {L L' : List RnT} (h : OwnR w B v L) (e : L = L') : OwnR w B v L' := e ▸ h
set_option maxRecDepth 100000 in
set_option maxHeartbeats 8000000 in
theorem l23Runs_any (A : Option Addr) (n cp : Nat) (xs : List Int) (w : World) (hr : RI w w.heap.size A n xs) (hn : n ≤ 1000000) :
    Calls Try.prog 87 #[.slice A n cp] w fun e w' => ∃ v, e = .returned v ∧ OwnR w' w.heap.size v (rnS xs n) ∧ Below w.heap.size w w' := by
  obtain ⟨i0, hi⟩ := info_own' info_runs
  have HI := Lib.hid (And.intro i0.bytes.le_refl hi)
  have HR := Lib.hid hr
  clear hi hr
  go_enter Try.func87, Try.ntmps87
  go_wp2_with fail
  have HS0 : Hid (OwnR (w.alloc (.cells #[] 115)) w.heap.size (.slice (some ⟨w.heap.size, 0, none⟩) 0 0) (rnS xs 0)) := Lib.hid (OwnR.empty (Nat.le_refl _))
  go_loopw [3, 4] (fun v i wr => ∃ k : Nat, k ≤ n ∧ i = .int .i64 k ∧ Hid (OwnR wr w.heap.size v (rnS xs k)) ∧ Hid (Below w.heap.size w wr)) (fun _ i _ => n - (intOf i).toNat)
  case atStart => exact ⟨0, Nat.zero_le _, rfl, HS0, Lib.hid (by go_grown)⟩
  case round =>
    clear HS0
    obtain ⟨k, hk, rfl, HO, HB⟩ := hrel
    by_cases hlt : k < n
    · obtain ⟨b1, o1, rfl, hb1, hc1⟩ := (HR.out.below HB.out).cells (by omega)
      have hx := hc1 k hlt
      have hdk : (nth xs k == 1) = dkN xs k := rfl
      have HSTEP : Hid (rnS xs (k + 1) = rnX (rnS xs k) k (dkN xs k)) := Lib.hid rfl
      have hln := rnS_len xs k
      have HMEM := Lib.hid (rnS_mem xs k)
      have hzw := HB.out.size
      generalize dkN xs k = d at *
      generalize nth xs k = x at *
      clear hc1
      rcases nil_or_snoc (rnS xs k) with he | ⟨E, r, he⟩
      · rw [he] at HO HSTEP
        have HOE := HO
        have hv0 : ∃ A' c', u3 = .slice A' 0 c' := by
          rcases HOE.out.2 with ⟨h', _⟩ | ⟨g, cap, cur, h', _⟩
          · exact ⟨none, 0, h'⟩
          · exact ⟨_, _, h'⟩
        obtain ⟨A', c', rfl⟩ := hv0
        have HOX : Hid (wr.ownsRow w.heap.size 115 3 (.slice A' 0 c') 0 (flatC [])) := Lib.hid HO.out
        go_wp2_with (at_builtin; refine wpList_append_own _ rfl _ _ 121 rfl w.heap.size 115 i0 (.agg #[.int .i64 0, .int .i64 0, .bool false]) 3 24 Try.underlying121 HI.out.2.1 HI.out.2.2.1 HI.out.2.2.2.1 HI.out.2.2.2.2 rfl (by decide) _ (0) (flatC ([])) rfl (World.ownsRow.alloc HOX.out _) ⟨wr.heap.size, 0, none⟩ 1 1 (runC ⟨k, 1, d⟩) rfl rfl (news_runs _ _ _ rfl) (runC_ok _) (by unfold maxLen; omega) (by omega) (by simp; omega) ?_; intro va wa hown hg _; have HOWN := Lib.hid hown; have HG := Lib.hid hg; clear hown hg)
        go_roundw
        case rel =>
          refine ⟨k + 1, by omega, by go_num, Lib.hid ?_, Lib.hid ((HB.out.alloc hzw _).grown HG.out (by simp; omega) (fun j hj => (World.ownsRow.lt HOX.out j hj).1))⟩
          rw [HSTEP.out, rnX_nil]
          exact HOWN.out
        case measure => simp [intOf]; omega
      · rw [he] at HO HSTEP hln HMEM
        rw [List.length_append, List.length_singleton] at hln
        obtain ⟨g, c, rfl, hgB, hgl, hcl, hcd, hfr, hset⟩ := HO.out.last
        have hrl := HMEM.out r (List.mem_append_right _ (List.mem_singleton.2 rfl))
        have hf1 := hfr (E.length * 3 + 1)
        have HSET := Lib.hid hset
        have HOX : Hid (wr.ownsRow w.heap.size 115 3 (.slice (some ⟨g, 0, none⟩) (E.length + 1) c) (E.length + 1) (flatC (E ++ [r]))) := Lib.hid (by have h := HO.out; unfold OwnR at h; rw [List.length_append, List.length_singleton] at h; exact h)
        obtain ⟨e, hel⟩ : ∃ e, E.length = e := ⟨_, rfl⟩
        rw [hel] at hcl hcd hf1 HSET HOX hln ⊢
        by_cases hrd : r.d = d
        · have HST : Hid (rnS xs (k + 1) = E ++ [⟨r.s, r.l + 1, r.d⟩]) := Lib.hid (by rw [HSTEP.out, rnX_same hrd])
          have hbe : (r.d == d) = true := by simpa using hrd
          generalize hrlv : r.l = rl at *
          generalize hrdv : r.d = rd at *
          clear hfr hset hrd
          go_wp2_with fail
          go_roundw
          case rel => exact ⟨k + 1, by omega, by go_num, Lib.hid (HSET.out.to HST.out.symm), Lib.hid (HB.out.setCell (p := ⟨g, e * 3 + 1, none⟩) hgB _)⟩
          case measure => simp [intOf]; omega
        · have hbe : (r.d == d) = false := by simpa using hrd
          have HST : Hid (rnS xs (k + 1) = E ++ [r] ++ [⟨k, 1, d⟩]) := Lib.hid (by rw [HSTEP.out, rnX_other hrd])
          have HEL := Lib.hid hel
          generalize hrdv : r.d = rd at hcd hbe
          clear hfr hset hrd hel
          go_wp2_with (at_builtin; refine wpList_append_own _ rfl _ _ 121 rfl w.heap.size 115 i0 (.agg #[.int .i64 0, .int .i64 0, .bool false]) 3 24 Try.underlying121 HI.out.2.1 HI.out.2.2.1 HI.out.2.2.2.1 HI.out.2.2.2.2 rfl (by decide) _ (e + 1) (flatC (E ++ [r])) rfl (World.ownsRow.alloc HOX.out _) ⟨wr.heap.size, 0, none⟩ 1 1 (runC ⟨k, 1, d⟩) rfl rfl (news_runs _ _ _ rfl) (runC_ok _) (by unfold maxLen; omega) (by omega) (by simp; omega) ?_; intro va wa hown hg _; have HOWN := Lib.hid hown; have HG := Lib.hid hg; clear hown hg)
          go_roundw
          case rel =>
            refine ⟨k + 1, by omega, by go_num, Lib.hid ?_, Lib.hid ((HB.out.alloc hzw _).grown HG.out (by simp; omega) (fun j hj => (World.ownsRow.lt HOX.out j hj).1))⟩
            rw [HST.out]
            unfold OwnR
            rw [flatC_snoc, List.length_append, List.length_singleton, List.length_append, List.length_singleton, HEL.out]
            exact HOWN.out
          case measure => simp [intOf]; omega
    · obtain rfl : n = k := by omega
      go_wp2_with fail
      go_ret
      exact ⟨_, rfl, HO.out, HB.out⟩
end Go.Proofs.Ytkipaefhnmfebaa
namespace Go.Proofs.Ytkipaefhnmfebaa
set_option linter.unusedSimpArgs false
open Go.RowKit

/-- Is one of five lengths near enough to its share k of sevenths of the sum S? -/
def secT (k w S : Int) : Bool := decide (2 * ((7 * w - k * S).natAbs : Int) ≤ k * S)
def secB (a b c d e : Nat) : Bool := secT 1 a (a + b + c + d + e) && (secT 1 b (a + b + c + d + e) && (secT 3 c (a + b + c + d + e) && (secT 1 d (a + b + c + d + e) && secT 1 e (a + b + c + d + e))))
theorem secT_bound {k w S : Int} (hk : 0 ≤ k) (hk3 : k ≤ 3) (hw : 0 ≤ w) (hw2 : w ≤ 100000) (hS : 0 ≤ S) (hS2 : S ≤ 500000) : -100000000 ≤ 7 * w - k * S ∧ 7 * w - k * S ≤ 100000000 ∧ 0 ≤ k * S ∧ k * S ≤ 1500000 := by
  have h : k = 0 ∨ k = 1 ∨ k = 2 ∨ k = 3 := by omega
  rcases h with rfl | rfl | rfl | rfl <;> omega
set_option maxRecDepth 100000 in
set_option maxHeartbeats 4000000 in
theorem isSection_any (a b c d e : Nat) (w : World) (ha : a ≤ 100000) (hb : b ≤ 100000) (hc : c ≤ 100000) (hd : d ≤ 100000) (he : e ≤ 100000) :
    Calls Try.prog 105 #[.agg #[.int .i64 a, .int .i64 b, .int .i64 c, .int .i64 d, .int .i64 e]] w fun u w' => u = .returned (.bool (secB a b c d e)) ∧ Below w.heap.size w w' := by
  have HD := Lib.hid (fun x w (h1 : -1000000000 ≤ x) (h2 : x ≤ 1000000000) => distance_any x w)
  have hix0 : ∀ w, (Instr.index 131 (.agg #[.int .i64 a, .int .i64 b, .int .i64 c, .int .i64 d, .int .i64 e]) (.int .i64 0)).run Try.prog w = .ok (.int .i64 (a : Nat)) w := fun w => by kernel_rfl
  have hix1 : ∀ w, (Instr.index 131 (.agg #[.int .i64 a, .int .i64 b, .int .i64 c, .int .i64 d, .int .i64 e]) (.int .i64 1)).run Try.prog w = .ok (.int .i64 (b : Nat)) w := fun w => by kernel_rfl
  have hix2 : ∀ w, (Instr.index 131 (.agg #[.int .i64 a, .int .i64 b, .int .i64 c, .int .i64 d, .int .i64 e]) (.int .i64 2)).run Try.prog w = .ok (.int .i64 (c : Nat)) w := fun w => by kernel_rfl
  have hix3 : ∀ w, (Instr.index 131 (.agg #[.int .i64 a, .int .i64 b, .int .i64 c, .int .i64 d, .int .i64 e]) (.int .i64 3)).run Try.prog w = .ok (.int .i64 (d : Nat)) w := fun w => by kernel_rfl
  have hix4 : ∀ w, (Instr.index 131 (.agg #[.int .i64 a, .int .i64 b, .int .i64 c, .int .i64 d, .int .i64 e]) (.int .i64 4)).run Try.prog w = .ok (.int .i64 (e : Nat)) w := fun w => by kernel_rfl
  have hiy0 : ∀ w, (Instr.index 131 (.agg #[.int .i64 1, .int .i64 1, .int .i64 3, .int .i64 1, .int .i64 1]) (.int .i64 0)).run Try.prog w = .ok (.int .i64 1) w := fun w => by kernel_rfl
  have hiy1 : ∀ w, (Instr.index 131 (.agg #[.int .i64 1, .int .i64 1, .int .i64 3, .int .i64 1, .int .i64 1]) (.int .i64 1)).run Try.prog w = .ok (.int .i64 1) w := fun w => by kernel_rfl
  have hiy2 : ∀ w, (Instr.index 131 (.agg #[.int .i64 1, .int .i64 1, .int .i64 3, .int .i64 1, .int .i64 1]) (.int .i64 2)).run Try.prog w = .ok (.int .i64 3) w := fun w => by kernel_rfl
  have hiy3 : ∀ w, (Instr.index 131 (.agg #[.int .i64 1, .int .i64 1, .int .i64 3, .int .i64 1, .int .i64 1]) (.int .i64 3)).run Try.prog w = .ok (.int .i64 1) w := fun w => by kernel_rfl
  have hiy4 : ∀ w, (Instr.index 131 (.agg #[.int .i64 1, .int .i64 1, .int .i64 3, .int .i64 1, .int .i64 1]) (.int .i64 4)).run Try.prog w = .ok (.int .i64 1) w := fun w => by kernel_rfl
  go_enter Try.func105, Try.ntmps105
  go_wp2_with fail
  go_loop [3, 9] (fun s i => (i = .int .i64 0 ∧ s = .int .i64 (0)) ∨ (i = .int .i64 1 ∧ s = .int .i64 ((a : Int))) ∨ (i = .int .i64 2 ∧ s = .int .i64 ((a : Int) + b)) ∨ (i = .int .i64 3 ∧ s = .int .i64 ((a : Int) + b + c)) ∨ (i = .int .i64 4 ∧ s = .int .i64 ((a : Int) + b + c + d)) ∨ (i = .int .i64 5 ∧ s = .int .i64 ((a : Int) + b + c + d + e))) (fun _ i => 5 - (intOf i).toNat)
  case atStart => exact .inl ⟨rfl, rfl⟩
  case round =>
    rcases hrel with ⟨rfl, rfl⟩ | ⟨rfl, rfl⟩ | ⟨rfl, rfl⟩ | ⟨rfl, rfl⟩ | ⟨rfl, rfl⟩ | ⟨rfl, rfl⟩
    · go_wp2_with fail
      go_round
      case rel => exact .inr (.inl ⟨rfl, by go_num⟩)
      case measure => simp [intOf]
    · go_wp2_with fail
      go_round
      case rel => exact .inr (.inr (.inl ⟨rfl, by go_num⟩))
      case measure => simp [intOf]
    · go_wp2_with fail
      go_round
      case rel => exact .inr (.inr (.inr (.inl ⟨rfl, by go_num⟩)))
      case measure => simp [intOf]
    · go_wp2_with fail
      go_round
      case rel => exact .inr (.inr (.inr (.inr (.inl ⟨rfl, by go_num⟩))))
      case measure => simp [intOf]
    · go_wp2_with fail
      go_round
      case rel => exact .inr (.inr (.inr (.inr (.inr (⟨rfl, by go_num⟩)))))
      case measure => simp [intOf]
    · have hS0 : 0 ≤ (a : Int) + b + c + d + e := by omega
      have hS1 : (a : Int) + b + c + d + e ≤ 500000 := by omega
      have HSB : Hid (secB a b c d e = (secT 1 a ((a : Int) + b + c + d + e) && (secT 1 b ((a : Int) + b + c + d + e) && (secT 3 c ((a : Int) + b + c + d + e) && (secT 1 d ((a : Int) + b + c + d + e) && secT 1 e ((a : Int) + b + c + d + e)))))) := Lib.hid rfl
      generalize (a : Int) + b + c + d + e = S at *
      have hwt : ∀ k w : Int, secT k w S = decide (2 * ((7 * w - k * S).natAbs : Int) ≤ k * S) := fun _ _ => rfl
      go_wp2_with fail
      go_loopw [17] (fun i wr => wr = w.alloc (.cells #[.int .i64 a, .int .i64 b, .int .i64 c, .int .i64 d, .int .i64 e] 131) ∧ ((i = .int .i64 0) ∨ (i = .int .i64 1 ∧ Hid (secT 1 a S = true)) ∨ (i = .int .i64 2 ∧ Hid (secT 1 a S = true) ∧ Hid (secT 1 b S = true)) ∨ (i = .int .i64 3 ∧ Hid (secT 1 a S = true) ∧ Hid (secT 1 b S = true) ∧ Hid (secT 3 c S = true)) ∨ (i = .int .i64 4 ∧ Hid (secT 1 a S = true) ∧ Hid (secT 1 b S = true) ∧ Hid (secT 3 c S = true) ∧ Hid (secT 1 d S = true)) ∨ (i = .int .i64 5 ∧ Hid (secT 1 a S = true) ∧ Hid (secT 1 b S = true) ∧ Hid (secT 3 c S = true) ∧ Hid (secT 1 d S = true) ∧ Hid (secT 1 e S = true)))) (fun i _ => 5 - (intOf i).toNat)
      case atStart => exact ⟨rfl, .inl rfl⟩
      case round =>
        obtain ⟨rfl, hrel⟩ := hrel
        rcases hrel with rfl | ⟨rfl, HT0⟩ | ⟨rfl, HT0, HT1⟩ | ⟨rfl, HT0, HT1, HT2⟩ | ⟨rfl, HT0, HT1, HT2, HT3⟩ | ⟨rfl, HT0, HT1, HT2, HT3, HT4⟩
        · by_cases ht : S < 2 * ((7 * (a : Int) - S).natAbs : Int)
          · have HF : Hid (secB a b c d e = false) := Lib.hid (by
              have h : secT 1 a S = false := by rw [hwt]; simp; omega
              rw [HSB.out, h]; simp)
            have hdd : decide (S < 2 * ((7 * (a : Int) - S).natAbs : Int)) = true := decide_eq_true ht
            clear ht hwt
            go_wp2_with (go_at_call 73; refine (distance_any _ _ (by omega) (by omega)).mono ?_; rintro e1 w1 ⟨rfl, rfl⟩)
            go_ret
            exact ⟨ret_bool HF.out.symm, by (repeat (first | (with_reducible assumption) | (with_reducible exact Below.refl _ _) | (with_reducible refine below_drewN' ?_ _) | (with_reducible refine Below.drew ?_) | ((with_reducible refine Below.alloc ?_ ?_ _); rotate_left; focus (first | (simp; done) | (simp; omega) | omega)) | ((with_reducible refine Below.setCell ?_ ?_ _); rotate_left; focus (first | (simp; done) | (simp; omega) | omega))))⟩
          · have HT : Hid (secT 1 a S = true) := Lib.hid (by rw [hwt]; simp; omega)
            have hdd : decide (S < 2 * ((7 * (a : Int) - S).natAbs : Int)) = false := decide_eq_false ht
            clear ht hwt
            go_wp2_with (go_at_call 73; refine (distance_any _ _ (by omega) (by omega)).mono ?_; rintro e1 w1 ⟨rfl, rfl⟩)
            go_roundw
            case rel => exact ⟨trivial, .inr (.inl ⟨rfl, HT⟩)⟩
            case measure => simp [intOf]
        · by_cases ht : S < 2 * ((7 * (b : Int) - S).natAbs : Int)
          · have HF : Hid (secB a b c d e = false) := Lib.hid (by
              have h : secT 1 b S = false := by rw [hwt]; simp; omega
              rw [HSB.out, h]; simp)
            have hdd : decide (S < 2 * ((7 * (b : Int) - S).natAbs : Int)) = true := decide_eq_true ht
            clear ht hwt
            go_wp2_with (go_at_call 73; refine (distance_any _ _ (by omega) (by omega)).mono ?_; rintro e1 w1 ⟨rfl, rfl⟩)
            go_ret
            exact ⟨ret_bool HF.out.symm, by (repeat (first | (with_reducible assumption) | (with_reducible exact Below.refl _ _) | (with_reducible refine below_drewN' ?_ _) | (with_reducible refine Below.drew ?_) | ((with_reducible refine Below.alloc ?_ ?_ _); rotate_left; focus (first | (simp; done) | (simp; omega) | omega)) | ((with_reducible refine Below.setCell ?_ ?_ _); rotate_left; focus (first | (simp; done) | (simp; omega) | omega))))⟩
          · have HT : Hid (secT 1 b S = true) := Lib.hid (by rw [hwt]; simp; omega)
            have hdd : decide (S < 2 * ((7 * (b : Int) - S).natAbs : Int)) = false := decide_eq_false ht
            clear ht hwt
            go_wp2_with (go_at_call 73; refine (distance_any _ _ (by omega) (by omega)).mono ?_; rintro e1 w1 ⟨rfl, rfl⟩)
            go_roundw
            case rel => exact ⟨trivial, .inr (.inr (.inl ⟨rfl, HT0, HT⟩))⟩
            case measure => simp [intOf]
        · by_cases ht : 3 * S < 2 * ((7 * (c : Int) - 3 * S).natAbs : Int)
          · have HF : Hid (secB a b c d e = false) := Lib.hid (by
              have h : secT 3 c S = false := by rw [hwt]; simp; omega
              rw [HSB.out, h]; simp)
            have hdd : decide (3 * S < 2 * ((7 * (c : Int) - 3 * S).natAbs : Int)) = true := decide_eq_true ht
            clear ht hwt
            go_wp2_with (go_at_call 73; refine (distance_any _ _ (by omega) (by omega)).mono ?_; rintro e1 w1 ⟨rfl, rfl⟩)
            go_ret
            exact ⟨ret_bool HF.out.symm, by (repeat (first | (with_reducible assumption) | (with_reducible exact Below.refl _ _) | (with_reducible refine below_drewN' ?_ _) | (with_reducible refine Below.drew ?_) | ((with_reducible refine Below.alloc ?_ ?_ _); rotate_left; focus (first | (simp; done) | (simp; omega) | omega)) | ((with_reducible refine Below.setCell ?_ ?_ _); rotate_left; focus (first | (simp; done) | (simp; omega) | omega))))⟩
          · have HT : Hid (secT 3 c S = true) := Lib.hid (by rw [hwt]; simp; omega)
            have hdd : decide (3 * S < 2 * ((7 * (c : Int) - 3 * S).natAbs : Int)) = false := decide_eq_false ht
            clear ht hwt
            go_wp2_with (go_at_call 73; refine (distance_any _ _ (by omega) (by omega)).mono ?_; rintro e1 w1 ⟨rfl, rfl⟩)
            go_roundw
            case rel => exact ⟨trivial, .inr (.inr (.inr (.inl ⟨rfl, HT0, HT1, HT⟩)))⟩
            case measure => simp [intOf]
        · by_cases ht : S < 2 * ((7 * (d : Int) - S).natAbs : Int)
          · have HF : Hid (secB a b c d e = false) := Lib.hid (by
              have h : secT 1 d S = false := by rw [hwt]; simp; omega
              rw [HSB.out, h]; simp)
            have hdd : decide (S < 2 * ((7 * (d : Int) - S).natAbs : Int)) = true := decide_eq_true ht
            clear ht hwt
            go_wp2_with (go_at_call 73; refine (distance_any _ _ (by omega) (by omega)).mono ?_; rintro e1 w1 ⟨rfl, rfl⟩)
            go_ret
            exact ⟨ret_bool HF.out.symm, by (repeat (first | (with_reducible assumption) | (with_reducible exact Below.refl _ _) | (with_reducible refine below_drewN' ?_ _) | (with_reducible refine Below.drew ?_) | ((with_reducible refine Below.alloc ?_ ?_ _); rotate_left; focus (first | (simp; done) | (simp; omega) | omega)) | ((with_reducible refine Below.setCell ?_ ?_ _); rotate_left; focus (first | (simp; done) | (simp; omega) | omega))))⟩
          · have HT : Hid (secT 1 d S = true) := Lib.hid (by rw [hwt]; simp; omega)
            have hdd : decide (S < 2 * ((7 * (d : Int) - S).natAbs : Int)) = false := decide_eq_false ht
            clear ht hwt
            go_wp2_with (go_at_call 73; refine (distance_any _ _ (by omega) (by omega)).mono ?_; rintro e1 w1 ⟨rfl, rfl⟩)
            go_roundw
            case rel => exact ⟨trivial, .inr (.inr (.inr (.inr (.inl ⟨rfl, HT0, HT1, HT2, HT⟩))))⟩
            case measure => simp [intOf]
        · by_cases ht : S < 2 * ((7 * (e : Int) - S).natAbs : Int)
          · have HF : Hid (secB a b c d e = false) := Lib.hid (by
              have h : secT 1 e S = false := by rw [hwt]; simp; omega
              rw [HSB.out, h]; simp)
            have hdd : decide (S < 2 * ((7 * (e : Int) - S).natAbs : Int)) = true := decide_eq_true ht
            clear ht hwt
            go_wp2_with (go_at_call 73; refine (distance_any _ _ (by omega) (by omega)).mono ?_; rintro e1 w1 ⟨rfl, rfl⟩)
            go_ret
            exact ⟨ret_bool HF.out.symm, by (repeat (first | (with_reducible assumption) | (with_reducible exact Below.refl _ _) | (with_reducible refine below_drewN' ?_ _) | (with_reducible refine Below.drew ?_) | ((with_reducible refine Below.alloc ?_ ?_ _); rotate_left; focus (first | (simp; done) | (simp; omega) | omega)) | ((with_reducible refine Below.setCell ?_ ?_ _); rotate_left; focus (first | (simp; done) | (simp; omega) | omega))))⟩
          · have HT : Hid (secT 1 e S = true) := Lib.hid (by rw [hwt]; simp; omega)
            have hdd : decide (S < 2 * ((7 * (e : Int) - S).natAbs : Int)) = false := decide_eq_false ht
            clear ht hwt
            go_wp2_with (go_at_call 73; refine (distance_any _ _ (by omega) (by omega)).mono ?_; rintro e1 w1 ⟨rfl, rfl⟩)
            go_roundw
            case rel => exact ⟨trivial, .inr (.inr (.inr (.inr (.inr (⟨rfl, HT0, HT1, HT2, HT3, HT⟩)))))⟩
            case measure => simp [intOf]
        · have HF : Hid (secB a b c d e = true) := Lib.hid (by rw [HSB.out, HT0.out, HT1.out, HT2.out, HT3.out, HT4.out]; rfl)
          go_wp2_with fail
          go_ret
          exact ⟨ret_bool HF.out.symm, by (repeat (first | (with_reducible assumption) | (with_reducible exact Below.refl _ _) | (with_reducible refine below_drewN' ?_ _) | (with_reducible refine Below.drew ?_) | ((with_reducible refine Below.alloc ?_ ?_ _); rotate_left; focus (first | (simp; done) | (simp; omega) | omega)) | ((with_reducible refine Below.setCell ?_ ?_ _); rotate_left; focus (first | (simp; done) | (simp; omega) | omega))))⟩
end Go.Proofs.Ytkipaefhnmfebaa
namespace Go.Proofs.Ytkipaefhnmfebaa
open Go.RowKit

def gR (L : List RnT) (i : Nat) : RnT := L.getD i ⟨0, 0, false⟩
theorem gR_left {E : List RnT} {q : RnT} {k : Nat} (h : k < E.length) : gR (E ++ [q]) k = gR E k := by
  unfold gR; rw [List.getD_eq_getElem?_getD, List.getElem?_append_left h, List.getD_eq_getElem?_getD]
theorem gR_last {E : List RnT} {q : RnT} : gR (E ++ [q]) E.length = q := by
  unfold gR; rw [List.getD_eq_getElem?_getD, List.getElem?_append_right (Nat.le_refl _)]; simp
theorem gR_mem {L : List RnT} {k : Nat} (h : k < L.length) : gR L k ∈ L := by
  unfold gR; rw [List.getD_eq_getElem?_getD, List.getElem?_eq_getElem h]; exact List.getElem_mem h
/-- Runs that lie one behind the other up to cell i. -/
structure RnOk (i : Nat) (L : List RnT) : Prop where
  pos : ∀ k, k < L.length → 1 ≤ (gR L k).l
  ch : ∀ k, k + 1 < L.length → (gR L (k + 1)).s = (gR L k).s + (gR L k).l
  fin : ∀ E q, L = E ++ [q] → q.s + q.l = i
theorem snoc_inj {E E' : List RnT} {q q' : RnT} (h : E ++ [q] = E' ++ [q']) : E = E' ∧ q = q' := by
  have := List.append_inj' h rfl
  exact ⟨this.1, by simpa using this.2⟩
theorem RnOk.one (i : Nat) (d : Bool) : RnOk (i + 1) [⟨i, 1, d⟩] := by
  refine ⟨fun k hk => ?_, fun k hk => by simp at hk, fun E q e => ?_⟩
  · simp at hk; subst hk; exact Nat.le_refl _
  · have := snoc_inj (E := []) (E' := E) (q := ⟨i, 1, d⟩) (q' := q) e
    rw [← this.2]
theorem RnOk.step {i : Nat} {L : List RnT} (h : RnOk i L) (d : Bool) : RnOk (i + 1) (rnX L i d) := by
  rcases nil_or_snoc L with rfl | ⟨E, q, rfl⟩
  · exact RnOk.one i d
  · have hf := h.fin E q rfl
    by_cases hd : q.d = d
    · rw [rnX_same hd]
      refine ⟨fun k hk => ?_, fun k hk => ?_, fun E' q' e => ?_⟩
      · rw [List.length_append, List.length_singleton] at hk
        by_cases hk2 : k = E.length
        · subst hk2; rw [gR_last]; simp
        · rw [gR_left (by omega)]
          have := h.pos k (by simp; omega)
          rwa [gR_left (by omega)] at this
      · rw [List.length_append, List.length_singleton] at hk
        have hc := h.ch k (by simp; omega)
        by_cases hk2 : k + 1 = E.length
        · rw [hk2, gR_last, gR_left (by omega)]
          rw [hk2, gR_last, gR_left (by omega)] at hc
          exact hc
        · rw [gR_left (by omega), gR_left (by omega)]
          rwa [gR_left (by omega), gR_left (by omega)] at hc
      · have := snoc_inj e
        rw [← this.2]; simp only; omega
    · rw [rnX_other hd]
      refine ⟨fun k hk => ?_, fun k hk => ?_, fun E' q' e => ?_⟩
      · rw [List.length_append, List.length_singleton] at hk
        by_cases hk2 : k = (E ++ [q]).length
        · subst hk2; rw [gR_last]; exact Nat.le_refl _
        · rw [gR_left (by omega)]
          exact h.pos k (by omega)
      · rw [List.length_append, List.length_singleton] at hk
        by_cases hk2 : k + 1 = (E ++ [q]).length
        · rw [hk2, gR_last, gR_left (by omega)]
          have hk3 : k = E.length := by simp at hk2; omega
          rw [hk3, gR_last]
          exact hf.symm
        · have hk4 : k + 1 < (E ++ [q]).length := by have : (E ++ [q]).length = E.length + 1 := by simp
                                                     omega
          rw [gR_left hk4, gR_left (show k < (E ++ [q]).length by omega)]
          exact h.ch k hk4
      · have := snoc_inj e
        rw [← this.2]
theorem rnS_ok (xs : List Int) : ∀ i, RnOk i (rnS xs i)
  | 0 => ⟨fun k hk => absurd hk (by simp [rnS]), fun k hk => absurd hk (by simp [rnS]), fun E q e => by simp [rnS] at e⟩
  | i + 1 => (rnS_ok xs i).step _
theorem RnOk.apart {n : Nat} {L : List RnT} (h : RnOk n L) {i j : Nat} (h1 : i < j) (h2 : j < L.length) : (gR L i).s + (gR L i).l ≤ (gR L j).s := by
  induction j with
  | zero => omega
  | succ j ih =>
    have hc := h.ch j h2
    by_cases he : i = j
    · subst he; omega
    · have := ih (by omega) (by omega)
      omega
structure SecT where
  s : Nat
  l : Nat
  m : RnT
  deriving DecidableEq
def sec5 (L : List RnT) (i : Nat) : Bool := secB (gR L i).l (gR L (i + 1)).l (gR L (i + 2)).l (gR L (i + 3)).l (gR L (i + 4)).l
def sum5 (L : List RnT) (i : Nat) : Nat := (gR L i).l + (gR L (i + 1)).l + (gR L (i + 2)).l + (gR L (i + 3)).l + (gR L (i + 4)).l
def secAt (L : List RnT) (i : Nat) : Bool := decide (i + 5 ≤ L.length) && ((gR L i).d && sec5 L i)
def secV (L : List RnT) (i : Nat) : SecT := ⟨(gR L i).s, sum5 L i, gR L (i + 2)⟩
def secS (L : List RnT) : Nat → List SecT
  | 0 => []
  | k + 1 => secS L k ++ (if secAt L k then [secV L k] else [])
theorem secS_yes {L : List RnT} {k : Nat} (h : secAt L k = true) : secS L (k + 1) = secS L k ++ [secV L k] := by rw [secS, if_pos h]
theorem secS_no {L : List RnT} {k : Nat} (h : secAt L k = false) : secS L (k + 1) = secS L k := by rw [secS, h]; simp
theorem secAt_far {L : List RnT} {k : Nat} (h : L.length < k + 5) : secAt L k = false := by unfold secAt; rw [decide_eq_false (by omega)]; rfl
theorem secAt_near {L : List RnT} {k : Nat} (h : k + 5 ≤ L.length) : secAt L k = ((gR L k).d && sec5 L k) := by unfold secAt; rw [decide_eq_true h]; rfl
theorem secS_top {L : List RnT} {k : Nat} (h : L.length < k + 5) : ∀ m, k ≤ m → secS L m = secS L k
  | 0, hm => by rw [show k = 0 by omega]
  | m + 1, hm => by
    by_cases he : k = m + 1
    · rw [he]
    · rw [secS_no (secAt_far (by omega)), secS_top h m (by omega)]
theorem secS_len (L : List RnT) : ∀ k, (secS L k).length ≤ k
  | 0 => Nat.le_refl _
  | k + 1 => by
    rw [secS, List.length_append]
    have := secS_len L k
    split <;> simp <;> omega
theorem secS_mem (L : List RnT) : ∀ k, ∀ t ∈ secS L k, ∃ i, i < k ∧ i + 5 ≤ L.length ∧ t = secV L i
  | 0, t, h => by cases h
  | k + 1, t, h => by
    rw [secS] at h
    rcases List.mem_append.1 h with h | h
    · obtain ⟨i, h1, h2, h3⟩ := secS_mem L k t h
      exact ⟨i, by omega, h2, h3⟩
    · by_cases hs : secAt L k = true
      · rw [if_pos hs, List.mem_singleton] at h
        refine ⟨k, by omega, ?_, h⟩
        unfold secAt at hs
        simp only [Bool.and_eq_true, decide_eq_true_eq] at hs
        exact hs.1
      · rw [if_neg hs] at h; cases h
def apT (a b : SecT) : Prop := a.m.s + a.m.l ≤ b.m.s
theorem secS_apart {n : Nat} {L : List RnT} (h : RnOk n L) : ∀ k, (secS L k).Pairwise apT
  | 0 => List.Pairwise.nil
  | k + 1 => by
    rw [secS, List.pairwise_append]
    refine ⟨secS_apart h k, by split <;> simp, fun a ha b hb => ?_⟩
    by_cases hs : secAt L k = true
    · rw [if_pos hs, List.mem_singleton] at hb
      subst hb
      obtain ⟨i, h1, h2, rfl⟩ := secS_mem L k a ha
      have hk : k + 5 ≤ L.length := by
        unfold secAt at hs
        simp only [Bool.and_eq_true, decide_eq_true_eq] at hs
        exact hs.1
      exact h.apart (i := i + 2) (j := k + 2) (by omega) (by omega)
    · rw [if_neg hs] at hb; cases hb
/-- The sections of a line. -/
def secs (xs : List Int) : List SecT := secS (rnS xs xs.length) (rnS xs xs.length).length
theorem sum5_end {n : Nat} {L : List RnT} (h : RnOk n L) {i : Nat} (hi : i + 5 ≤ L.length) : (gR L i).s + sum5 L i = (gR L (i + 4)).s + (gR L (i + 4)).l := by
  have h0 := h.ch i (by omega)
  have h1 := h.ch (i + 1) (by omega)
  have h2 := h.ch (i + 2) (by omega)
  have h3 := h.ch (i + 3) (by omega)
  unfold sum5
  rw [show i + 1 + 1 = i + 2 from rfl] at h1
  rw [show i + 2 + 1 = i + 3 from rfl] at h2
  rw [show i + 3 + 1 = i + 4 from rfl] at h3
  omega
structure SecOk (n : Nat) (t : SecT) : Prop where
  e : t.s + t.l ≤ n
  m : t.m.s + t.m.l ≤ n
  p : 1 ≤ t.m.l
theorem secS_ok (xs : List Int) (n k : Nat) : ∀ t ∈ secS (rnS xs n) k, SecOk n t := by
  intro t ht
  obtain ⟨i, h1, h2, rfl⟩ := secS_mem _ k t ht
  have ho := rnS_ok xs n
  have h4 := rnS_mem xs n _ (gR_mem (L := rnS xs n) (k := i + 4) (by omega))
  have h3 := rnS_mem xs n _ (gR_mem (L := rnS xs n) (k := i + 2) (by omega))
  refine ⟨?_, h3, ho.pos _ (by omega)⟩
  have := sum5_end ho h2
  show (gR (rnS xs n) i).s + sum5 (rnS xs n) i ≤ n
  omega
def hitB (r : Nat) (t : SecT) : Bool := decide (t.m.s ≤ r) && decide (r < t.m.s + t.m.l)
theorem hitB_true {r : Nat} {t : SecT} : hitB r t = true ↔ t.m.s ≤ r ∧ r < t.m.s + t.m.l := by unfold hitB; simp
theorem hit_inR (r : Nat) (t : SecT) : inR (r : Int) (t.m.s : Nat) ((t.m.s : Nat) + (t.m.l : Nat) - 1) = hitB r t := by
  unfold inR hitB
  congr 1
  · exact decide_eq_decide.2 (by omega)
  · exact decide_eq_decide.2 (by omega)
theorem hit_none {r : Nat} {D : List SecT} (h : ∀ t ∈ D, hitB r t = false) : D.filter (hitB r) = [] := by
  rw [List.filter_eq_nil_iff]
  intro t ht; rw [h t ht]; simp
theorem hit_one {r : Nat} {A D : List SecT} {t : SecT} (hp : (A ++ t :: D).Pairwise apT) (ha : ∀ u ∈ A, hitB r u = false) (ht : hitB r t = true) : (A ++ t :: D).filter (hitB r) = [t] := by
  rw [List.filter_append, hit_none ha, List.nil_append, List.filter_cons_of_pos ht, hit_none ?_]
  intro u hu
  have h1 := (List.pairwise_append.1 hp).2.1
  have h2 := (List.pairwise_cons.1 h1).1 u hu
  have h3 := hitB_true.1 ht
  unfold apT at h2
  cases he : hitB r u with
  | false => rfl
  | true => have := hitB_true.1 he; omega
theorem hit_len {r : Nat} {D : List SecT} (hp : D.Pairwise apT) : (D.filter (hitB r)).length ≤ 1 := by
  induction D with
  | nil => simp
  | cons t D ih =>
    by_cases h : hitB r t = true
    · have := hit_one (A := []) (r := r) hp (fun u hu => by cases hu) h
      rw [List.nil_append] at this
      rw [this]; simp
    · rw [List.filter_cons_of_neg h]; exact ih (List.pairwise_cons.1 hp).2
structure FdT where
  r : Nat
  c : Nat
  h : Nat
  w : Nat
  deriving DecidableEq
def fdV (s t : SecT) : FdT := ⟨2 * t.s + t.l, 2 * s.s + s.l, t.l, s.l⟩
def lnR (G : List Int) (C r : Nat) : List Int := (G.drop (r * C)).take C
def lnC (G : List Int) (R C c : Nat) : List Int := (List.range R).map fun r => nth G (r * C + c)
theorem lnC_len (G : List Int) (R C c : Nat) : (lnC G R C c).length = R := by simp [lnC]
theorem lnR_len {G : List Int} {R C r : Nat} (hl : G.length = R * C) (hr : r < R) : (lnR G C r).length = C := by
  unfold lnR
  have h := Nat.mul_le_mul_right C (show r + 1 ≤ R from hr)
  rw [Nat.succ_mul] at h
  rw [List.length_take, List.length_drop, hl]
  omega
def mdC (s : SecT) : Nat := s.m.s + s.m.l / 2
/-- The candidates of a section of row r. -/
def cdS (G : List Int) (R C r : Nat) (s : SecT) : List FdT := ((secs (lnC G R C (mdC s))).filter (hitB r)).map (fdV s)
def cdR (G : List Int) (R C r : Nat) : List FdT := (secs (lnR G C r)).flatMap (cdS G R C r)
/-- The candidates of the first n rows. -/
def cdN (G : List Int) (R C : Nat) : Nat → List FdT
  | 0 => []
  | n + 1 => cdN G R C n ++ cdR G R C n
theorem secs_apart (xs : List Int) : (secs xs).Pairwise apT := secS_apart (rnS_ok xs _) _
theorem cdS_len (G : List Int) (R C r : Nat) (s : SecT) : (cdS G R C r s).length ≤ 1 := by
  unfold cdS; rw [List.length_map]; exact hit_len (secs_apart _)
theorem flat_len {α β : Type} {f : α → List β} (h : ∀ a, (f a).length ≤ 1) : ∀ L : List α, (L.flatMap f).length ≤ L.length
  | [] => Nat.le_refl _
  | a :: L => by rw [List.flatMap_cons, List.length_append, List.length_cons]; have := h a; have := flat_len h L; omega
theorem secs_len (xs : List Int) : (secs xs).length ≤ xs.length := Nat.le_trans (secS_len _ _) (rnS_len xs _)
theorem cdN_len {G : List Int} {R C : Nat} (hl : G.length = R * C) : ∀ r, r ≤ R → (cdN G R C r).length ≤ r * C
  | 0, _ => by simp [cdN]
  | r + 1, h => by
    have h1 := cdN_len hl r (by omega)
    have h2 := flat_len (cdS_len G R C r) (secs (lnR G C r))
    have h3 := secs_len (lnR G C r)
    rw [lnR_len hl (by omega)] at h3
    rw [cdN, List.length_append, cdR, Nat.succ_mul]
    omega
structure FdOk (R C : Nat) (x : FdT) : Prop where
  r : x.r ≤ 2 * R
  c : x.c ≤ 2 * C
  h : x.h ≤ R
  w : x.w ≤ C
theorem secs_ok (xs : List Int) : ∀ t ∈ secs xs, SecOk xs.length t := secS_ok xs _ _
theorem cdS_ok {G : List Int} {R C r : Nat} {s : SecT} (hs : SecOk C s) : ∀ x ∈ cdS G R C r s, FdOk R C x := by
  intro x hx
  obtain ⟨t, ht, rfl⟩ := List.mem_map.1 hx
  have h := secs_ok _ t (List.mem_filter.1 ht).1
  rw [lnC_len] at h
  have h1 := h.e
  have h2 := hs.e
  exact ⟨show 2 * t.s + t.l ≤ 2 * R by omega, show 2 * s.s + s.l ≤ 2 * C by omega, show t.l ≤ R by omega, show s.l ≤ C by omega⟩
theorem cdN_ok {G : List Int} {R C : Nat} (hl : G.length = R * C) : ∀ r, r ≤ R → ∀ x ∈ cdN G R C r, FdOk R C x
  | 0, _, x, hx => by cases hx
  | r + 1, h, x, hx => by
    rw [cdN] at hx
    rcases List.mem_append.1 hx with hx | hx
    · exact cdN_ok hl r (by omega) x hx
    · obtain ⟨s, hs, hx⟩ := List.mem_flatMap.1 hx
      have hok := secs_ok _ s hs
      rw [lnR_len hl (by omega)] at hok
      exact cdS_ok hok x hx
/-- At the same place, for the size of the second one? -/
def nrF (a b : FdT) : Bool := decide ((((a.r : Int) - b.r).natAbs : Int) ≤ ((b.h + b.w) / 2 : Nat)) && decide ((((a.c : Int) - b.c).natAbs : Int) ≤ ((b.h + b.w) / 2 : Nat))
def fnX (out : List FdT) (x : FdT) : List FdT := if out.any (fun y => nrF y x) then out else out ++ [x]
def fnS (L : List FdT) : List FdT := L.foldl fnX []
theorem fnS_snoc (L : List FdT) (x : FdT) : fnS (L ++ [x]) = fnX (fnS L) x := by unfold fnS; rw [List.foldl_append]; rfl
theorem fnX_mem {out : List FdT} {x y : FdT} (h : y ∈ fnX out x) : y ∈ out ∨ y = x := by
  unfold fnX at h
  split at h
  · exact .inl h
  · simpa using h
theorem fnX_len (out : List FdT) (x : FdT) : out.length ≤ (fnX out x).length ∧ (fnX out x).length ≤ out.length + 1 := by
  unfold fnX; split <;> simp
theorem fn_mem {out L : List FdT} : ∀ y ∈ L.foldl fnX out, y ∈ out ∨ y ∈ L := by
  induction L generalizing out with
  | nil => intro y hy; exact .inl hy
  | cons x L ih =>
    intro y hy
    rcases ih y hy with h | h
    · rcases fnX_mem h with h | h
      · exact .inl h
      · exact .inr (by simp [h])
    · exact .inr (by simp [h])
theorem fnS_mem {L : List FdT} {y : FdT} (h : y ∈ fnS L) : y ∈ L := (fn_mem y h).resolve_left (by simp)
theorem fn_grow {out L : List FdT} : out.length ≤ (L.foldl fnX out).length ∧ (L.foldl fnX out).length ≤ out.length + L.length := by
  induction L generalizing out with
  | nil => exact ⟨Nat.le_refl _, Nat.le_refl _⟩
  | cons x L ih =>
    have h1 := fnX_len out x
    have h2 := ih (out := fnX out x)
    simp only [List.foldl_cons, List.length_cons]
    omega
theorem fnS_len (L : List FdT) : (fnS L).length ≤ L.length := by have := fn_grow (out := []) (L := L); simpa [fnS] using this.2
/-- No two finders are near. -/
def gF (L : List FdT) (i : Nat) : FdT := L.getD i ⟨0, 0, 0, 0⟩
def apF (L : List FdT) : Prop := L.Pairwise (fun a b => nrF a b = false)
theorem apF_step {out : List FdT} {x : FdT} (h : apF out) : apF (fnX out x) := by
  unfold fnX
  split
  · exact h
  · rename_i hn
    refine List.pairwise_append.2 ⟨h, by simp, fun a ha b hb => ?_⟩
    rw [List.mem_singleton] at hb
    subst hb
    cases he : nrF a b with
    | false => rfl
    | true => exact absurd (List.any_eq_true.2 ⟨a, ha, he⟩) hn
theorem fn_apart {out L : List FdT} (h : apF out) : apF (L.foldl fnX out) := by
  induction L generalizing out with
  | nil => exact h
  | cons x L ih => exact ih (apF_step h)
theorem fnS_apart (L : List FdT) : apF (fnS L) := fn_apart List.Pairwise.nil
theorem gF_eq {L : List FdT} {i : Nat} (h : i < L.length) : gF L i = L[i] := by unfold gF; rw [List.getD_eq_getElem?_getD, List.getElem?_eq_getElem h]; rfl
theorem gF_mem {L : List FdT} {i : Nat} (h : i < L.length) : gF L i ∈ L := by rw [gF_eq h]; exact List.getElem_mem h
theorem apF.at {L : List FdT} (h : apF L) {k i : Nat} (hki : k < i) (hi : i < L.length) : nrF (gF L k) (gF L i) = false := by
  rw [gF_eq hi, gF_eq (show k < L.length by omega)]
  exact List.pairwise_iff_getElem.1 h k i (by omega) hi hki
theorem take_gF {L : List FdT} {i : Nat} (h : i < L.length) : L.take (i + 1) = L.take i ++ [gF L i] := by
  rw [gF_eq h, List.take_succ_eq_append_getElem h]
end Go.Proofs.Ytkipaefhnmfebaa
namespace Go.Proofs.Ytkipaefhnmfebaa
set_option linter.unusedSimpArgs false
open Go.RowKit

set_option maxRecDepth 100000 in
set_option maxHeartbeats 4000000 in
theorem sIsSection_any (a b c d e : Nat) (A : Option Addr) (cp : Nat) (w : World) (hr : RI w w.heap.size A 5 [(a : Int), b, c, d, e]) (ha : 1 ≤ a ∧ a ≤ 40000) (hb : 1 ≤ b ∧ b ≤ 40000) (hc : 1 ≤ c ∧ c ≤ 40000) (hd : 1 ≤ d ∧ d ≤ 40000) (he : 1 ≤ e ∧ e ≤ 40000) :
    Calls Try.prog 111 #[.slice A 5 cp] w fun u w' => u = .returned (.bool (secB a b c d e)) ∧ Below w.heap.size w w' := by
  obtain ⟨bx, ox, rfl, hbx, hcx⟩ := hr.cells (by omega)
  have HCX := Lib.hid hcx
  have hin0 : inR (a : Int) 1 40000 = true := inR_mk (by omega) (by omega)
  have hin1 : inR (b : Int) 1 40000 = true := inR_mk (by omega) (by omega)
  have hin2 : inR (c : Int) 1 40000 = true := inR_mk (by omega) (by omega)
  have hin3 : inR (d : Int) 1 40000 = true := inR_mk (by omega) (by omega)
  have hin4 : inR (e : Int) 1 40000 = true := inR_mk (by omega) (by omega)
  clear hcx hr
  go_enter Try.func111, Try.ntmps111
  go_wp2_with fail
  have hcc0 : w.cell? ⟨bx, ox + 0, none⟩ = some (.int .i64 (a : Nat)) := HCX.out 0 (by omega)
  have hcc1 : w.cell? ⟨bx, ox + 1, none⟩ = some (.int .i64 (b : Nat)) := HCX.out 1 (by omega)
  have hcc2 : w.cell? ⟨bx, ox + 2, none⟩ = some (.int .i64 (c : Nat)) := HCX.out 2 (by omega)
  have hcc3 : w.cell? ⟨bx, ox + 3, none⟩ = some (.int .i64 (d : Nat)) := HCX.out 3 (by omega)
  have hcc4 : w.cell? ⟨bx, ox + 4, none⟩ = some (.int .i64 (e : Nat)) := HCX.out 4 (by omega)
  rw [Nat.add_zero] at hcc0
  go_loopw [3, 4] (fun s i wr => wr = w ∧ ((i = .int .i64 0 ∧ s = .int .i64 (0)) ∨ (i = .int .i64 1 ∧ s = .int .i64 ((a : Int))) ∨ (i = .int .i64 2 ∧ s = .int .i64 ((a : Int) + b)) ∨ (i = .int .i64 3 ∧ s = .int .i64 ((a : Int) + b + c)) ∨ (i = .int .i64 4 ∧ s = .int .i64 ((a : Int) + b + c + d)) ∨ (i = .int .i64 5 ∧ s = .int .i64 ((a : Int) + b + c + d + e)))) (fun _ i _ => 5 - (intOf i).toNat)
  case atStart => exact ⟨rfl, .inl ⟨rfl, rfl⟩⟩
  case round =>
    obtain ⟨rfl, hrel⟩ := hrel
    rcases hrel with ⟨rfl, rfl⟩ | ⟨rfl, rfl⟩ | ⟨rfl, rfl⟩ | ⟨rfl, rfl⟩ | ⟨rfl, rfl⟩ | ⟨rfl, rfl⟩
    · go_wp2_with (go_at_call 70; refine (l01In_any _ _ _ _).mono ?_; rintro e1 w1 ⟨rfl, rfl⟩)
      go_roundw
      case rel => exact ⟨by first | trivial | rfl, .inr (.inl ⟨rfl, by go_num⟩)⟩
      case measure => simp [intOf]
    · go_wp2_with (go_at_call 70; refine (l01In_any _ _ _ _).mono ?_; rintro e1 w1 ⟨rfl, rfl⟩)
      go_roundw
      case rel => exact ⟨by first | trivial | rfl, .inr (.inr (.inl ⟨rfl, by go_num⟩))⟩
      case measure => simp [intOf]
    · go_wp2_with (go_at_call 70; refine (l01In_any _ _ _ _).mono ?_; rintro e1 w1 ⟨rfl, rfl⟩)
      go_roundw
      case rel => exact ⟨by first | trivial | rfl, .inr (.inr (.inr (.inl ⟨rfl, by go_num⟩)))⟩
      case measure => simp [intOf]
    · go_wp2_with (go_at_call 70; refine (l01In_any _ _ _ _).mono ?_; rintro e1 w1 ⟨rfl, rfl⟩)
      go_roundw
      case rel => exact ⟨by first | trivial | rfl, .inr (.inr (.inr (.inr (.inl ⟨rfl, by go_num⟩))))⟩
      case measure => simp [intOf]
    · go_wp2_with (go_at_call 70; refine (l01In_any _ _ _ _).mono ?_; rintro e1 w1 ⟨rfl, rfl⟩)
      go_roundw
      case rel => exact ⟨by first | trivial | rfl, .inr (.inr (.inr (.inr (.inr (⟨rfl, by go_num⟩)))))⟩
      case measure => simp [intOf]
    · have hS0 : 0 ≤ (a : Int) + b + c + d + e := by omega
      have hS1 : (a : Int) + b + c + d + e ≤ 500000 := by omega
      have HSB : Hid (secB a b c d e = (secT 1 a ((a : Int) + b + c + d + e) && (secT 1 b ((a : Int) + b + c + d + e) && (secT 3 c ((a : Int) + b + c + d + e) && (secT 1 d ((a : Int) + b + c + d + e) && secT 1 e ((a : Int) + b + c + d + e)))))) := Lib.hid rfl
      generalize (a : Int) + b + c + d + e = S at *
      have hwt : ∀ k w : Int, secT k w S = decide (2 * ((7 * w - k * S).natAbs : Int) ≤ k * S) := fun _ _ => rfl
      obtain ⟨W6, rfl⟩ : ∃ W6, W6 = wr := ⟨_, rfl⟩
      have HCC := Lib.hid (And.intro hcc0 (And.intro hcc1 (And.intro hcc2 (And.intro hcc3 hcc4))))
      go_wp2_with fail
      clear hcc0 hcc1 hcc2 hcc3 hcc4
      go_loopw [5] (fun i wr => Hid (Below W6.heap.size W6 wr) ∧ ((i = .int .i64 0) ∨ (i = .int .i64 1 ∧ Hid (secT 1 a S = true)) ∨ (i = .int .i64 2 ∧ Hid (secT 1 a S = true) ∧ Hid (secT 1 b S = true)) ∨ (i = .int .i64 3 ∧ Hid (secT 1 a S = true) ∧ Hid (secT 1 b S = true) ∧ Hid (secT 3 c S = true)) ∨ (i = .int .i64 4 ∧ Hid (secT 1 a S = true) ∧ Hid (secT 1 b S = true) ∧ Hid (secT 3 c S = true) ∧ Hid (secT 1 d S = true)) ∨ (i = .int .i64 5 ∧ Hid (secT 1 a S = true) ∧ Hid (secT 1 b S = true) ∧ Hid (secT 3 c S = true) ∧ Hid (secT 1 d S = true) ∧ Hid (secT 1 e S = true)))) (fun i _ => 5 - (intOf i).toNat)
      case atStart => exact ⟨Lib.hid (Below.refl _ _), .inl rfl⟩
      case round =>
        obtain ⟨HB, hrel⟩ := hrel
        have hbz := HB.out.size
        have hbx2 : bx < wr.heap.size := by omega
        have hcc0 := (HB.out.cell (p := ⟨bx, ox, none⟩) hbx).trans HCC.out.1
        have hcc1 := (HB.out.cell (p := ⟨bx, ox + 1, none⟩) hbx).trans HCC.out.2.1
        have hcc2 := (HB.out.cell (p := ⟨bx, ox + 2, none⟩) hbx).trans HCC.out.2.2.1
        have hcc3 := (HB.out.cell (p := ⟨bx, ox + 3, none⟩) hbx).trans HCC.out.2.2.2.1
        have hcc4 := (HB.out.cell (p := ⟨bx, ox + 4, none⟩) hbx).trans HCC.out.2.2.2.2
        rcases hrel with rfl | ⟨rfl, HT0⟩ | ⟨rfl, HT0, HT1⟩ | ⟨rfl, HT0, HT1, HT2⟩ | ⟨rfl, HT0, HT1, HT2, HT3⟩ | ⟨rfl, HT0, HT1, HT2, HT3, HT4⟩
        · by_cases ht : S < 2 * ((7 * (a : Int) - S).natAbs : Int)
          · have HF : Hid (secB a b c d e = false) := Lib.hid (by
              have h : secT 1 a S = false := by rw [hwt]; simp; omega
              rw [HSB.out, h]; simp)
            have hdd : decide (S < 2 * ((7 * (a : Int) - S).natAbs : Int)) = true := decide_eq_true ht
            clear ht hwt
            go_wp2_with (go_at_call 115; refine (l01Abs_any _ _ (by omega) (by omega)).mono ?_; rintro e1 w1 ⟨rfl, rfl⟩)
            go_ret
            exact ⟨ret_bool HF.out.symm, HB.out.alloc hbz _⟩
          · have HT : Hid (secT 1 a S = true) := Lib.hid (by rw [hwt]; simp; omega)
            have hdd : decide (S < 2 * ((7 * (a : Int) - S).natAbs : Int)) = false := decide_eq_false ht
            clear ht hwt
            go_wp2_with (go_at_call 115; refine (l01Abs_any _ _ (by omega) (by omega)).mono ?_; rintro e1 w1 ⟨rfl, rfl⟩)
            go_roundw
            case rel => exact ⟨Lib.hid (HB.out.alloc hbz _), .inr (.inl ⟨rfl, HT⟩)⟩
            case measure => simp [intOf]
        · by_cases ht : S < 2 * ((7 * (b : Int) - S).natAbs : Int)
          · have HF : Hid (secB a b c d e = false) := Lib.hid (by
              have h : secT 1 b S = false := by rw [hwt]; simp; omega
              rw [HSB.out, h]; simp)
            have hdd : decide (S < 2 * ((7 * (b : Int) - S).natAbs : Int)) = true := decide_eq_true ht
            clear ht hwt
            go_wp2_with (go_at_call 115; refine (l01Abs_any _ _ (by omega) (by omega)).mono ?_; rintro e1 w1 ⟨rfl, rfl⟩)
            go_ret
            exact ⟨ret_bool HF.out.symm, HB.out.alloc hbz _⟩
          · have HT : Hid (secT 1 b S = true) := Lib.hid (by rw [hwt]; simp; omega)
            have hdd : decide (S < 2 * ((7 * (b : Int) - S).natAbs : Int)) = false := decide_eq_false ht
            clear ht hwt
            go_wp2_with (go_at_call 115; refine (l01Abs_any _ _ (by omega) (by omega)).mono ?_; rintro e1 w1 ⟨rfl, rfl⟩)
            go_roundw
            case rel => exact ⟨Lib.hid (HB.out.alloc hbz _), .inr (.inr (.inl ⟨rfl, HT0, HT⟩))⟩
            case measure => simp [intOf]
        · by_cases ht : 3 * S < 2 * ((7 * (c : Int) - 3 * S).natAbs : Int)
          · have HF : Hid (secB a b c d e = false) := Lib.hid (by
              have h : secT 3 c S = false := by rw [hwt]; simp; omega
              rw [HSB.out, h]; simp)
            have hdd : decide (3 * S < 2 * ((7 * (c : Int) - 3 * S).natAbs : Int)) = true := decide_eq_true ht
            clear ht hwt
            go_wp2_with (go_at_call 115; refine (l01Abs_any _ _ (by omega) (by omega)).mono ?_; rintro e1 w1 ⟨rfl, rfl⟩)
            go_ret
            exact ⟨ret_bool HF.out.symm, HB.out.alloc hbz _⟩
          · have HT : Hid (secT 3 c S = true) := Lib.hid (by rw [hwt]; simp; omega)
            have hdd : decide (3 * S < 2 * ((7 * (c : Int) - 3 * S).natAbs : Int)) = false := decide_eq_false ht
            clear ht hwt
            go_wp2_with (go_at_call 115; refine (l01Abs_any _ _ (by omega) (by omega)).mono ?_; rintro e1 w1 ⟨rfl, rfl⟩)
            go_roundw
            case rel => exact ⟨Lib.hid (HB.out.alloc hbz _), .inr (.inr (.inr (.inl ⟨rfl, HT0, HT1, HT⟩)))⟩
            case measure => simp [intOf]
        · by_cases ht : S < 2 * ((7 * (d : Int) - S).natAbs : Int)
          · have HF : Hid (secB a b c d e = false) := Lib.hid (by
              have h : secT 1 d S = false := by rw [hwt]; simp; omega
              rw [HSB.out, h]; simp)
            have hdd : decide (S < 2 * ((7 * (d : Int) - S).natAbs : Int)) = true := decide_eq_true ht
            clear ht hwt
            go_wp2_with (go_at_call 115; refine (l01Abs_any _ _ (by omega) (by omega)).mono ?_; rintro e1 w1 ⟨rfl, rfl⟩)
            go_ret
            exact ⟨ret_bool HF.out.symm, HB.out.alloc hbz _⟩
          · have HT : Hid (secT 1 d S = true) := Lib.hid (by rw [hwt]; simp; omega)
            have hdd : decide (S < 2 * ((7 * (d : Int) - S).natAbs : Int)) = false := decide_eq_false ht
            clear ht hwt
            go_wp2_with (go_at_call 115; refine (l01Abs_any _ _ (by omega) (by omega)).mono ?_; rintro e1 w1 ⟨rfl, rfl⟩)
            go_roundw
            case rel => exact ⟨Lib.hid (HB.out.alloc hbz _), .inr (.inr (.inr (.inr (.inl ⟨rfl, HT0, HT1, HT2, HT⟩))))⟩
            case measure => simp [intOf]
        · by_cases ht : S < 2 * ((7 * (e : Int) - S).natAbs : Int)
          · have HF : Hid (secB a b c d e = false) := Lib.hid (by
              have h : secT 1 e S = false := by rw [hwt]; simp; omega
              rw [HSB.out, h]; simp)
            have hdd : decide (S < 2 * ((7 * (e : Int) - S).natAbs : Int)) = true := decide_eq_true ht
            clear ht hwt
            go_wp2_with (go_at_call 115; refine (l01Abs_any _ _ (by omega) (by omega)).mono ?_; rintro e1 w1 ⟨rfl, rfl⟩)
            go_ret
            exact ⟨ret_bool HF.out.symm, HB.out.alloc hbz _⟩
          · have HT : Hid (secT 1 e S = true) := Lib.hid (by rw [hwt]; simp; omega)
            have hdd : decide (S < 2 * ((7 * (e : Int) - S).natAbs : Int)) = false := decide_eq_false ht
            clear ht hwt
            go_wp2_with (go_at_call 115; refine (l01Abs_any _ _ (by omega) (by omega)).mono ?_; rintro e1 w1 ⟨rfl, rfl⟩)
            go_roundw
            case rel => exact ⟨Lib.hid (HB.out.alloc hbz _), .inr (.inr (.inr (.inr (.inr (⟨rfl, HT0, HT1, HT2, HT3, HT⟩)))))⟩
            case measure => simp [intOf]
        · have HF : Hid (secB a b c d e = true) := Lib.hid (by rw [HSB.out, HT0.out, HT1.out, HT2.out, HT3.out, HT4.out]; rfl)
          go_wp2_with fail
          go_ret
          exact ⟨ret_bool HF.out.symm, HB.out⟩
end Go.Proofs.Ytkipaefhnmfebaa
