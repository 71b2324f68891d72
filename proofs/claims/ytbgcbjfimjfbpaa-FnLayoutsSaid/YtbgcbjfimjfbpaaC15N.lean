/-
  Contracts of chapter 15, the program: the cells that are no data cells.
-/
import Derived.Test.YtbgcbjfimjfbpaaMapP
import Derived.Test.YtbgcbjfimjfbpaaC14P
import Derived.Test.YtbgcbjfimjfbpaaC14T
namespace Go.Proofs.Ytbgcbjfimjfbpaa
set_option linter.unusedSimpArgs false
open Go.RowKit

def eqP (r c : Int) (p : Int × Int) : Bool := r == p.1 && c == p.2
/-- The fixed cells among the first k. -/
def fixB (N k : Nat) (r c : Int) : Bool := decide (0 ≤ r) && decide (0 ≤ c) && decide (c < N) && decide (r * N + c < k) && decide (0 ≤ nth (fixL N) (r * N + c).toNat)
/-- The cells that are no data cells. -/
def noD (N : Nat) (r c : Int) : Bool := fixB N (N * N) r c || (fmtA ++ fmtB N).any (eqP r c)
theorem fixB_zero (N : Nat) : fixB N 0 = fun _ _ => false := by
  funext r c
  unfold fixB
  by_cases h1 : 0 ≤ r <;> by_cases h2 : 0 ≤ c <;> simp [h1, h2]
  intro h3 h4
  have := Int.mul_nonneg h1 (show (0 : Int) ≤ N by omega)
  omega
theorem fixB_succ {N k : Nat} (hN : 0 < N) (r c : Int) : fixB N (k + 1) r c = (fixB N k r c || (decide (0 ≤ nth (fixL N) k) && (r == ((k / N : Nat) : Int) && c == ((k % N : Nat) : Int)))) := by
  have hdm := Nat.div_add_mod k N
  have hml := Nat.mod_lt k hN
  unfold fixB
  by_cases h1 : 0 ≤ r
  · by_cases h2 : 0 ≤ c
    · obtain ⟨R, rfl⟩ := Int.eq_ofNat_of_zero_le h1
      obtain ⟨C, rfl⟩ := Int.eq_ofNat_of_zero_le h2
      have e : (R : Int) * N + C = ((R * N + C : Nat) : Int) := by simp
      rw [e, Int.toNat_natCast]
      by_cases h3 : C < N
      · have h3' : decide ((C : Int) < N) = true := decide_eq_true (by omega)
        by_cases h4 : R * N + C = k
        · have hq : k / N = R ∧ k % N = C := by
            rw [← h4]
            refine ⟨?_, ?_⟩
            · rw [Nat.mul_comm, Nat.mul_add_div hN, Nat.div_eq_of_lt h3, Nat.add_zero]
            · rw [Nat.mul_comm, Nat.mul_add_mod, Nat.mod_eq_of_lt h3]
          rw [h4]
          simp [h3', hq.1, hq.2]
          intro _; exact ⟨h3, by omega⟩
        · have hne : ¬ (R = k / N ∧ C = k % N) := by
            rintro ⟨rfl, rfl⟩
            exact h4 (by rw [Nat.mul_comm]; exact hdm)
          have hlt : (((R * N + C : Nat) : Int) < ((k + 1 : Nat) : Int)) ↔ (((R * N + C : Nat) : Int) < (k : Int)) := by omega
          have hb : ((R : Int) == ((k / N : Nat) : Int) && (C : Int) == ((k % N : Nat) : Int)) = false := by
            rw [Bool.and_eq_false_iff]
            by_cases e1 : R = k / N
            · right; have : C ≠ k % N := fun e2 => hne ⟨e1, e2⟩
              simp; omega
            · left; simp; omega
          rw [hb]
          simp only [Bool.and_false, Bool.or_false]
          rw [decide_eq_decide.2 hlt]
      · have h3' : decide ((C : Int) < N) = false := decide_eq_false (by omega)
        have hb : ((C : Int) == ((k % N : Nat) : Int)) = false := by rw [beq_eq_false_iff_ne]; intro e; have e2 := Int.ofNat_inj.1 e; omega
        rw [hb, h3']; simp
    · have h2' : decide (0 ≤ c) = false := decide_eq_false h2
      have hb : (c == ((k % N : Nat) : Int)) = false := by rw [beq_eq_false_iff_ne]; intro e; have := Int.natCast_nonneg (k % N); rw [e] at h2; exact h2 this
      rw [hb, h2']; simp
  · have h1' : decide (0 ≤ r) = false := decide_eq_false h1
    have hb : (r == ((k / N : Nat) : Int)) = false := by rw [beq_eq_false_iff_ne]; intro e; have := Int.natCast_nonneg (k / N); rw [e] at h1; exact h1 this
    rw [hb, h1']; simp
theorem any_take {ps : List (Int × Int)} {k : Nat} (h : k < ps.length) (r c : Int) : (ps.take (k + 1)).any (eqP r c) = ((ps.take k).any (eqP r c) || (r == (nthP ps k).1 && c == (nthP ps k).2)) := by
  rw [take_nthP h, List.any_append]; simp [eqP]
theorem I64.of {n : Int} (h : -1000000 ≤ n ∧ n ≤ 1000000) : I64 n := by unfold I64; omega
def fmtOk : Bool := sizes.all fun N => (fmtA ++ fmtB N).all fun p => decide (0 ≤ p.1) && decide (0 ≤ p.2) && decide (p.1 < N) && decide (p.2 < N)
theorem fmtOk_true : fmtOk = true := by decide +kernel
theorem fmt_in {N : Nat} (h : 17 ≤ N ∧ N ≤ 41 ∧ N % 4 = 1) {p : Int × Int} (hp : p ∈ fmtA ++ fmtB N) : 0 ≤ p.1 ∧ 0 ≤ p.2 ∧ p.1 < N ∧ p.2 < N := by
  have h1 := List.all_eq_true.1 fmtOk_true N (size_mem h)
  have h2 := List.all_eq_true.1 h1 p hp
  simp only [Bool.and_eq_true, decide_eq_true_eq] at h2
  omega
theorem RI.grownNe {w w' : World} {B b o n : Nat} {xs : List Int} {row : Option Nat} (h : RI w B (some ⟨b, o, none⟩) n xs) (hg : w.grownBy w' row) (hne : some b ≠ row) : RI w' B (some ⟨b, o, none⟩) n xs := by
  refine ⟨h.len, fun hn => ?_⟩
  obtain ⟨b', o', e, hb, hc⟩ := h.cells hn
  simp only [Option.some.injEq, Addr.mk.injEq, and_true] at e
  obtain ⟨rfl, rfl⟩ := e
  exact ⟨b, o, rfl, hb, fun k hk => hg.cell (hc k hk) hne⟩
set_option maxRecDepth 20000 in
set_option maxHeartbeats 4000000 in
theorem noData_any (N : Nat) (w : World) (hN : 17 ≤ N ∧ N ≤ 41 ∧ N % 4 = 1) :
    Calls Try.prog 118 #[.int .i64 N] w fun e w' => ∃ b n, e = .returned (.map (some b)) ∧ w.heap.size ≤ b ∧ n ≤ 5000 ∧ MapP w' b n (noD N) ∧ Below w.heap.size w w' := by
  have HF := Lib.hid (fun w => fixed_any N w hN)
  have HFM := Lib.hid (fun w => formats_any N w ⟨hN.1, hN.2.1⟩)
  have HN := Lib.hid hN
  have hN1 := hN.1
  have hN2 := hN.2.1
  have hNN : N * N ≤ 1681 := Nat.mul_le_mul hN2 hN2
  obtain ⟨iP, hi⟩ := info_own' info_places
  have HP := Lib.hid (And.intro iP.bytes.le_refl hi)
  clear hi hN
  have hlen : (fixL N).length = N * N := fixL_len N
  have HL := Lib.hid hlen
  clear hlen
  have hmm := @run_makeMap Try.prog
  go_enter Try.func118, Try.ntmps118
  go_wp2_with fail
  (go_at_call 120; with_reducible refine (HF.out _).mono ?_; rintro e1 w1 ⟨v1, rfl, ho1, hb1⟩; obtain ⟨hc1, hf1⟩ := bcell hb1; have hB1 : Below w.heap.size w w1 := (below_then (by first | (go_grown; done) | (repeat (first | (with_reducible assumption) | (with_reducible exact Below.refl _ _) | (with_reducible refine below_drewN' ?_ _) | (with_reducible refine Below.drew ?_) | ((with_reducible refine Below.alloc ?_ ?_ _); rotate_left; focus (first | (simp; done) | (simp; omega) | omega)) | ((with_reducible refine Below.setCell ?_ ?_ _); rotate_left; focus (first | (simp; done) | (simp; omega) | omega))))) (by first | omega | (simp; done) | (simp; omega)) hb1); have hz1a : w.heap.size < w1.heap.size := (by have := hb1.size; first | omega | (simp at this; omega)))
  have HM1 := Lib.hid ((MapP.made w).below hb1 (by simp))
  obtain ⟨A1, c1, rfl, hr1⟩ := ho1.shape
  rw [HL.out] at hr1 ⊢
  have HO1 := Lib.hid ho1
  have HR1 := Lib.hid hr1
  have hfd : ∀ w, (Instr.field 137 (.agg #[.int .i64 (N : Int), .int .i64 (N : Int), .slice A1 (N * N) c1]) 2).run Try.prog w = .ok (.slice A1 (N * N) c1) w := fun _ => by kernel_rfl
  have hb1w : w.heap.size < w1.heap.size := by have := hb1.size; simp at this; omega
  clear ho1 hr1 hc1 hf1 hb1
  go_wp2_with fail
  clear hmm
  go_loopw [4, 5, 15] (fun x y i wr => ∃ k : Nat, k ≤ N * N ∧ i = .int .i64 k ∧ Hid (∃ n, n ≤ k ∧ MapP wr w.heap.size n (fixB N k)) ∧ Hid (RI wr w1.heap.size A1 (N * N) (fixL N)) ∧ Hid (Below w.heap.size w wr) ∧ w1.heap.size ≤ wr.heap.size)
    (fun _ _ i _ => N * N - (intOf i).toNat)
  case atStart => exact ⟨0, Nat.zero_le _, rfl, Lib.hid ⟨0, Nat.le_refl _, by rw [fixB_zero]; exact HM1.out⟩, HR1, Lib.hid hB1, Nat.le_refl _⟩
  case round =>
    obtain ⟨k, hk, rfl, hmap, hri, hbel, hsw⟩ := hrel
    have hbw := hbel.out
    have hlw : w.heap.size < wr.heap.size := by obtain ⟨n, _, h⟩ := hmap.out; exact h.lt
    by_cases hlt : k < N * N
    · obtain ⟨b, o, rfl, hb, hc⟩ := hri.out.cells (by omega)
      have hck := hc k hlt
      have hbn : b ≠ w.heap.size := by
        intro e
        obtain ⟨n, hn, D, ⟨es, clock, hh, _⟩, _⟩ := hmap.out
        subst e
        have := hh
        simp [World.cell?, hh] at hck
      clear hc
      have hq1 : k / N ≤ k := Nat.div_le_self _ _
      have hq2 : k % N ≤ k := Nat.mod_le _ _
      have hq0 := Int.natCast_nonneg (k / N)
      have hdv0 : (k : Int) / N = ((k / N : Nat) : Int) := (Int.natCast_ediv k N).symm
      have hmd0 : (k : Int) % N = ((k % N : Nat) : Int) := (Int.natCast_emod k N).symm
      have hdv : IntKind.i64.wrap ((k : Int) / N) = ((k / N : Nat) : Int) := by rw [hdv0]; exact i64_in (by omega)
      have hmd : IntKind.i64.wrap ((k : Int) % N) = ((k % N : Nat) : Int) := by rw [hmd0]; exact i64_in (by omega)
      clear hdv0
      have hN0 : ¬ N = 0 := by omega
      have hfb := Lib.hid (fun r c => fixB_succ (N := N) (k := k) (by omega) r c)
      by_cases hx : 0 ≤ nth (fixL N) k
      · go_wp2_with fail
        refine wp_region_qat [] 8 [] (by kernel_rfl) (by kernel_rfl) ?_
        intro hbc
        simp only [List.take_succ_cons, List.take_zero, List.drop_succ_cons, List.drop_zero]
        repeat (first
          | refine wpQ_pass rfl ?_
          | (refine wpQ_step rfl (fun K hK => ?_)
             go_simp
             first
               | (refine hK _ ?_; clear hK K)))
        refine wpQ_nil ⟨?_, ?_⟩
        · exact rfl
        intro  w6 hb6 hF6
        clear hbc
        obtain ⟨hc6, hf6⟩ := bcell hb6
        have hB6 : Below w.heap.size w w6 := below_then (by first | (go_grown; done) | (repeat (first | (with_reducible assumption) | (with_reducible exact Below.refl _ _) | (with_reducible refine below_drewN' ?_ _) | (with_reducible refine Below.drew ?_) | ((with_reducible refine Below.alloc ?_ ?_ _); rotate_left; focus (first | (simp; done) | (simp; omega) | omega)) | ((with_reducible refine Below.setCell ?_ ?_ _); rotate_left; focus (first | (simp; done) | (simp; omega) | omega))))) (by first | (simp; done) | (simp; omega) | omega) hb6
        have hz6a : w.heap.size < w6.heap.size := (by have := hb6.size; first | omega | (simp at this; omega))
        clear hF6
        try simp only [Act.put, List.setIfInBounds_toArray, List.set_cons_succ, List.set_cons_zero]
        obtain ⟨nm, hnm, hmp⟩ := hmap.out
        obtain ⟨D, hD1, hD2⟩ := hmp.below hb6 hmp.lt
        have hri6 := Lib.hid (hri.out.below (hb6.mono hsw))
        have hi1 : I64 ((k / N : Nat) : Int) := I64.of (by omega)
        have hi2 : I64 ((k % N : Nat) : Int) := I64.of (by omega)
        have HK := Lib.hid (keyP hi1 hi2)
        have HD1 := Lib.hid hD1
        have hput := Lib.hid (MapP.put hD2 hD1.isMap hi1 hi2)
        clear hD1 hD2 hc6 hf6 hi1 hi2
        go_wp2_with (at_mapUpdate; refine wpList_mapUpdate_own _ rfl _ _ _ 139 rfl 142 4 keyedPlace Try.underlying139 _ w.heap.size nm D rfl HD1.out (by unfold maxLen; omega) _ _ _ rfl rfl HK.out (.lit (.bool true)) [] (plainElem_bool Try.underlying4 true) ?_; intro w7 hown7 hg7)
        have hM7 := Lib.hid (show MapP w7 w.heap.size (nm + 1) (fixB N (k + 1)) from ⟨_, hown7, fun r c hr hc => by rw [hput.out r c hr hc, hfb.out r c, decide_eq_true hx]; simp⟩)
        have hri7 := Lib.hid (hri6.out.grownNe hg7 (by simpa using hbn))
        have hb7 := Lib.hid (hB6.grown hg7 (Nat.le_of_lt (Nat.lt_of_lt_of_le hlw hb6.size)) (fun q hq => Nat.le_of_eq (by simpa using hq)))
        have hs7 := hg7.size
        have hs6 := hb6.size
        clear hown7 hg7 hput HD1
        go_wp2_with fail
        go_roundw
        case rel => exact ⟨k + 1, by omega, by go_num, Lib.hid ⟨nm + 1, by omega, hM7.out⟩, hri7, hb7, by omega⟩
        case measure => simp [intOf]; omega
      · have hfe : Hid (fixB N (k + 1) = fixB N k) := Lib.hid (by funext r c; rw [hfb.out r c, decide_eq_false hx]; simp)
        go_wp2_with fail
        go_roundw
        case rel => exact ⟨k + 1, by omega, by go_num, Lib.hid (by obtain ⟨n, hn, h⟩ := hmap.out; exact ⟨n, by omega, by rw [hfe.out]; exact h⟩), hri, hbel, hsw⟩
        case measure => simp [intOf]; omega
    · have hkn : k = N * N := by omega
      subst hkn
      clear hk hlt hri
      go_wp2_with fail
      (go_at_call 121; with_reducible refine (HFM.out _).mono ?_; rintro e2 w2 ⟨v2, v3, rfl, hT2, hb2⟩; obtain ⟨hc2, hf2⟩ := bcell hb2; have hB2 : Below w.heap.size w w2 := (below_then (by first | (go_grown; done) | (repeat (first | (with_reducible assumption) | (with_reducible exact Below.refl _ _) | (with_reducible refine below_drewN' ?_ _) | (with_reducible refine Below.drew ?_) | ((with_reducible refine Below.alloc ?_ ?_ _); rotate_left; focus (first | (simp; done) | (simp; omega) | omega)) | ((with_reducible refine Below.setCell ?_ ?_ _); rotate_left; focus (first | (simp; done) | (simp; omega) | omega))))) (by first | omega | (simp; done) | (simp; omega)) hb2); have hz2a : w.heap.size < w2.heap.size := (by have := hb2.size; first | omega | (simp at this; omega)))
      obtain ⟨nm, hnm, hmp⟩ := hmap.out
      have hM2 := Lib.hid (hmp.below hb2 hlw)
      obtain ⟨fa, hfa⟩ : ∃ fa, fmtA = fa := ⟨_, rfl⟩
      obtain ⟨fb, hfbb⟩ : ∃ fb, fmtB (N : Int) = fb := ⟨_, rfl⟩
      have hle := Lib.hid (show fb.length = 15 by rw [← hfbb]; exact fmtB_len _)
      have hla := Lib.hid (show fa.length = 15 by rw [← hfa]; exact fmtA_len)
      have HFa := Lib.hid hfa
      have HFb := Lib.hid hfbb
      rw [hfa, hfbb] at hT2
      clear hfa hfbb
      obtain ⟨g2, c2, rfl, hgB2, hgw2, -⟩ := hT2.1.cells (by rw [hla.out]; omega)
      obtain ⟨g3, c3, rfl, hgB3, hgw3, -⟩ := hT2.2.1.cells (by rw [hle.out]; omega)
      have hnews : ∀ j u, (pc fb)[j]? = some u → w2.cell? ((⟨g3, 0, none⟩ : Addr).add j) = some u := World.ownsRow.cells hT2.2.1 rfl
      have hnews' := Lib.hid hnews
      have hT := Lib.hid hT2
      clear hmp hc2 hf2 hT2 hnews
      go_wp2_with (at_builtin; refine wpList_append_own_at _ rfl _ _ 131 rfl (w.heap.size + 1) 142 iP (.agg #[.int .i64 0, .int .i64 0]) 2 16 Try.underlying131 HP.out.2.1 HP.out.2.2.1 HP.out.2.2.2.1 HP.out.2.2.2.2 rfl (by decide) _ _ _ rfl (hT.out.1.more hlw) ⟨g3, 0, none⟩ _ _ (pc fb) rfl (pc_len _) hnews'.out (pc_ok _) (own_maxP (by rw [hla.out]; omega) (by rw [hle.out]; omega)) (own_bytesP (by rw [hla.out]; omega) (by rw [hle.out]; omega)) (by omega) ?_; intro va wa howna hga _ hata)
      have hoa := OwnP.snoc (qs := fb) howna rfl
      have hP30 : (fa ++ fb).length = 30 := by rw [List.length_append, hle.out, hla.out]
      have hin := Lib.hid (fun (p : Int × Int) (hp : p ∈ fa ++ fb) => fmt_in HN.out (p := p) (by rw [HFa.out, HFb.out]; exact hp))
      have hMa := Lib.hid (hM2.out.kept hga (fun e => by have : w.heap.size = g2 := Option.some.inj e; omega))
      have hBa := Lib.hid (hB2.grown hga (by omega) (fun q hq => by have : g2 = q := Option.some.inj hq; omega))
      have hnoD := Lib.hid (show noD N = fun r c => fixB N (N * N) r c || (fa ++ fb).any (eqP r c) by unfold noD; rw [HFa.out, HFb.out])
      clear howna hga hata
      generalize fa ++ fb = P30 at hoa hP30 hin hnoD ⊢
      obtain ⟨g4, c4, rfl, hgB4, hgw4, -⟩ := hoa.cells (by omega)
      rw [hP30] at hoa ⊢
      have HOa := Lib.hid hoa
      have HP30 := Lib.hid hP30
      clear hoa hP30
      go_simp
      go_wp2_with fail
      go_loopw [9, 40] (fun p i wr => ∃ k : Nat, k ≤ 30 ∧ i = .int .i64 k ∧ Hid (∃ n, n ≤ N * N + k ∧ MapP wr w.heap.size n (fun r c => fixB N (N * N) r c || (P30.take k).any (eqP r c))) ∧ Hid (OwnP wr (w.heap.size + 1) (.slice (some ⟨g4, 0, none⟩) 30 c4) P30) ∧ Hid (Below w.heap.size w wr))
        (fun _ i _ => 30 - (intOf i).toNat)
      case atStart => exact ⟨0, Nat.zero_le _, rfl, Lib.hid ⟨nm, by omega, by simpa using hMa.out⟩, HOa, hBa⟩
      case round =>
        obtain ⟨k, hk, rfl, hmap, hown, hbel⟩ := hrel
        by_cases hlt : k < 30
        · obtain ⟨g', c', e', hB', hg', hc'⟩ := hown.out.cells (by rw [HP30.out]; omega)
          obtain ⟨rfl, rfl⟩ : g4 = g' ∧ c4 = c' := by
            simp only [Value.slice.injEq, Option.some.injEq, Addr.mk.injEq, and_true] at e'
            exact ⟨e'.1, e'.2.2⟩
          obtain ⟨hck0, hck1⟩ := hc' k (by rw [HP30.out]; exact hlt)
          have hrg := hin.out _ (nthP_mem (ps := P30) (k := k) (by rw [HP30.out]; exact hlt))
          have htk := Lib.hid (fun r c => any_take (ps := P30) (k := k) (by rw [HP30.out]; exact hlt) r c)
          generalize nthP P30 k = pp at hck0 hck1 hrg htk
          obtain ⟨pr, pcl⟩ := pp
          simp only at hck0 hck1 hrg htk
          clear hc' e'
          obtain ⟨n7, hn7, hmp⟩ := hmap.out
          have hlr := hmp.lt
          have hsr := hbel.out.size
          obtain ⟨D, hD1, hD2⟩ := hmp.below ((Below.refl wr.heap.size wr).alloc (Nat.le_refl _) (.cells #[.int .i64 pr, .int .i64 pcl] 142)) hlr
          have hi1 : I64 pr := I64.of (by omega)
          have hi2 : I64 pcl := I64.of (by omega)
          have HK := Lib.hid (keyP hi1 hi2)
          have HD1 := Lib.hid hD1
          have hput := Lib.hid (MapP.put hD2 hD1.isMap hi1 hi2)
          clear hD1 hD2 hi1 hi2 hmp
          go_wp2_with (at_mapUpdate; refine wpList_mapUpdate_own _ rfl _ _ _ 139 rfl 142 4 keyedPlace Try.underlying139 _ w.heap.size n7 D rfl HD1.out (by unfold maxLen; omega) _ _ _ rfl rfl HK.out (.lit (.bool true)) [] (plainElem_bool Try.underlying4 true) ?_; intro w7 hown7 hg7)
          have hM7 := Lib.hid (show MapP w7 w.heap.size (n7 + 1) (fun r c => fixB N (N * N) r c || (P30.take (k + 1)).any (eqP r c)) from ⟨_, hown7, fun r c hr hc => by rw [hput.out r c hr hc]; show _ = DataW.lit (.bool (fixB N (N * N) r c || (P30.take (k + 1)).any (eqP r c))); rw [htk.out r c, Bool.or_assoc]⟩)
          have hO7 := Lib.hid (show OwnP w7 (w.heap.size + 1) (.slice (some ⟨g4, 0, none⟩) 30 c4) P30 from World.ownsRow.kept (OwnP.alloc hown.out _) hg7 (.inr (fun e => by have : g4 = w.heap.size := Option.some.inj e; omega)))
          have hb7 := Lib.hid ((hbel.out.alloc hsr (.cells #[.int .i64 pr, .int .i64 pcl] 142)).grown hg7 (by simp; omega) (fun q hq => Nat.le_of_eq (by simpa using hq)))
          clear hown7 hg7 hput HD1
          go_wp2_with fail
          go_roundw
          case rel => exact ⟨k + 1, by omega, by go_num, Lib.hid ⟨n7 + 1, by omega, hM7.out⟩, hO7, hb7⟩
          case measure => simp [intOf]; omega
        · obtain rfl : k = 30 := by omega
          clear hk hlt
          go_wp2_with fail
          go_ret
          obtain ⟨n, hn, hm⟩ := hmap.out
          exact ⟨w.heap.size, n, rfl, Nat.le_refl _, by omega, by rw [hnoD.out]; rwa [List.take_of_length_le (by rw [HP30.out]; exact Nat.le_refl _)] at hm, hbel.out⟩
end Go.Proofs.Ytbgcbjfimjfbpaa
