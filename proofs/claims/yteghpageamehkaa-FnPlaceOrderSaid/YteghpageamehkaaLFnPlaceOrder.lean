/-
  The row FnPlaceOrder: every data cell that a code draws has one index, and the cells of an element follow one another; no condition.
-/
import Derived.Test.YteghpageamehkaaArgB
import Derived.Test.YteghpageamehkaaDr
import Derived.Test.YteghpageamehkaaLPlaceIndex
import Derived.Test.YteghpageamehkaaC15L
namespace Go.Proofs.Yteghpageamehkaa
set_option linter.unusedSimpArgs false
open Go.ChangeShapes Go.WideShapes Go.ChangeAt Go.RowKit

/-- What the index of a cell of an element is. -/
theorem po_fact {n d x : Int} {i : Nat} (h : i < (epR n d x).length) : ∃ (N : Nat) (X : Int), 0 ≤ X ∧ X ≤ 1640 ∧ x * d = X ∧ 0 ≤ x ∧ x ≤ 1640 ∧ 1 ≤ d ∧ d ≤ 8 ∧ X + i ≤ 1640 ∧
    piV n (nthP (epR n d x) i).1 (nthP (epR n d x) i).2 = X + i ∧ piC n (nthP (epR n d x) i).1 (nthP (epR n d x) i).2 = 0 ∧ I64 (nthP (epR n d x) i).1 ∧ I64 (nthP (epR n d x) i).2 := by
  unfold epR at h ⊢
  cases hs : sizeB n
  · rw [hs] at h; simp at h
  cases hd : inR d 1 8
  · rw [hs, hd] at h; simp at h
  rw [hs, hd] at h
  obtain ⟨N, rfl, h1, h2, h3⟩ := sizeB_true hs
  have hdr := inR_true hd
  obtain ⟨K, rfl⟩ := Int.eq_ofNat_of_zero_le (show 0 ≤ d by omega)
  simp only [Bool.and_self, cond_true, Int.toNat_natCast] at h ⊢
  cases hx : inR x 0 ((((dataL N).length / K : Nat) : Int) - 1)
  · rw [hx] at h; simp at h
  rw [hx] at h
  have hxr := inR_true hx
  obtain ⟨E, rfl⟩ := Int.eq_ofNat_of_zero_le hxr.1
  simp only [cond_true, Int.toNat_natCast] at h ⊢
  have hle := dataL_le h2
  have hN : 17 ≤ N ∧ N ≤ 41 ∧ N % 4 = 1 := ⟨h1, h2, h3⟩
  have hEq : E < (dataL N).length / K := by omega
  have hqK := Nat.div_mul_le_self (dataL N).length K
  have hEK : E * K + K ≤ (dataL N).length := by
    have := Nat.mul_le_mul_right K (show E + 1 ≤ (dataL N).length / K by omega)
    rw [Nat.succ_mul] at this; omega
  have hEE : E ≤ E * K := Nat.le_mul_of_pos_right E (by omega)
  rw [List.length_take, List.length_drop] at h
  have hi : i < K := by omega
  have hnth : nthP (((dataL N).drop (E * K)).take K) i = nthP (dataL N) (E * K + i) := by
    unfold nthP
    simp only [List.getD_eq_getElem?_getD]
    rw [List.getElem?_take, if_pos hi, List.getElem?_drop]
  have hk : E * K + i < (dataL N).length := by omega
  have hin := data_in4 hN _ (nthP_mem hk)
  have hfo := ix_found hN (r := (nthP (dataL N) (E * K + i)).1) (c := (nthP (dataL N) (E * K + i)).2) hk (eqP_iff.2 rfl)
  refine ⟨N, ((E * K : Nat) : Int), by omega, by omega, by simp, by omega, by omega, by omega, by omega, by omega, ?_, ?_, ?_, ?_⟩
  · rw [hnth]; unfold piV; rw [hs]; simp only [if_true, Int.toNat_natCast]; rw [hfo]; simp
  · rw [hnth]; unfold piC; simp [hs, hfo]
  · rw [hnth]; unfold I64; omega
  · rw [hnth]; unfold I64; omega
theorem epC_epR {n d x : Int} : (epR n d x).length ≤ 1640 := epR_le n d x
set_option maxRecDepth 20000 in
set_option maxHeartbeats 4000000 in
theorem lawFnPlaceOrder (A : Option Addr) (n c : Nat) (bs : List Int) (w : World) (hr : RB w w.heap.size A n bs) :
    Calls Try.prog 3 #[.slice A n c] w fun e' w' => e' = .returned (.bool true) ∧ Below w.heap.size w w' := by
  have HR := Lib.hid hr
  clear hr
  by_cases hbig : 4096 < n
  · have hbd : decide (4096 < n) = true := decide_eq_true hbig
    go_enter Try.func3, Try.ntmps3
    go_wp2_with (go_at_call 11; go_call (big_any _ _ _ _) as e0 w0 ⟨rfl, hb0⟩; obtain ⟨hc0, hf0⟩ := bcell hb0; have hB0 : Below w.heap.size w w0 := (below_then (by first | (go_grown; done) | (repeat (first | (with_reducible assumption) | (with_reducible exact Below.refl _ _) | (with_reducible refine below_drewN' ?_ _) | (with_reducible refine Below.drew ?_) | ((with_reducible refine Below.alloc ?_ ?_ _); rotate_left; focus (first | (simp; done) | (simp; omega) | omega)) | ((with_reducible refine Below.setCell ?_ ?_ _); rotate_left; focus (first | (simp; done) | (simp; omega) | omega))))) (by first | omega | (simp; done) | (simp; omega)) hb0))
    go_ret
    exact ⟨rfl, by (repeat (first | (with_reducible assumption) | (with_reducible exact Below.refl _ _) | (with_reducible refine below_drewN' ?_ _) | (with_reducible refine Below.drew ?_) | ((with_reducible refine Below.alloc ?_ ?_ _); rotate_left; focus (first | (simp; done) | (simp; omega) | omega)) | ((with_reducible refine Below.setCell ?_ ?_ _); rotate_left; focus (first | (simp; done) | (simp; omega) | omega))))⟩
  · have hbd : decide (4096 < n) = false := decide_eq_false hbig
    have HD := Lib.hid (fun (w' : World) (hb : Below w.heap.size w w') => DrawElementPlaces_any A n c bs w.heap.size w' (HR.out.below hb) hb.size (by omega))
    have HD2 := Lib.hid (fun (w' : World) (hb : Below w.heap.size w w') => DrawPlaceIndex_any A n c bs w.heap.size w' (HR.out.below hb) hb.size (by omega))
    go_enter Try.func3, Try.ntmps3
    go_wp2_with first | (go_at_call 11; go_call (big_any _ _ _ _) as e0 w0 ⟨rfl, hb0⟩; obtain ⟨hc0, hf0⟩ := bcell hb0; have hB0 : Below w.heap.size w w0 := (below_then (by first | (go_grown; done) | (repeat (first | (with_reducible assumption) | (with_reducible exact Below.refl _ _) | (with_reducible refine below_drewN' ?_ _) | (with_reducible refine Below.drew ?_) | ((with_reducible refine Below.alloc ?_ ?_ _); rotate_left; focus (first | (simp; done) | (simp; omega) | omega)) | ((with_reducible refine Below.setCell ?_ ?_ _); rotate_left; focus (first | (simp; done) | (simp; omega) | omega))))) (by first | omega | (simp; done) | (simp; omega)) hb0))
    go_at_call 12
    with_reducible refine (HD.out _ hB0).mono ?_
    rintro e1 w1 ⟨u1, rfl, ⟨m, d, x, rfl⟩, hb1⟩
    have HB1 := Lib.hid (hB0.trans (hb1.mono hB0.size))
    have hpo := Lib.hid (fun (i : Nat) (h : i < (epR m d x).length) => po_fact h)
    have hle := epR_le m d x
    have P1 := fun w => ElementPlaces_any m d x w
    have P2 := fun w => sElementPlaces_any m d x w
    generalize epR m d x = es at hpo hle P1 P2
    generalize epC m d x = C at P1 P2
    have HP1 := Lib.hid P1
    have HP2 := Lib.hid P2
    have h1 : (C != C) = false := by simp
    obtain ⟨L, hL⟩ : ∃ L, es.length = L := ⟨_, rfl⟩
    rw [hL] at hle
    have HL := Lib.hid hL
    have h2 : ((L : Int) != (L : Int)) = false := by simp
    clear hb0 hb1 hB0 hc0 hf0 P1 P2 hL
    go_wp2_with fail
    go_at_call 13
    with_reducible refine (HP1.out _).mono ?_
    rintro e2 w2 ⟨v2, rfl, ho2, hb2⟩
    obtain ⟨A2, c2, rfl⟩ := ho2.shape0
    rw [HL.out] at ho2 ⊢
    have hs1 := HB1.out.size
    have HB2 := Lib.hid (HB1.out.trans (hb2.mono hs1))
    have HO2 := Lib.hid ho2
    clear ho2 hb2
    go_wp2_with fail
    go_at_call 14
    with_reducible refine (HP2.out _).mono ?_
    rintro e3 w3 ⟨v3, rfl, ho3, hb3⟩
    obtain ⟨A3, c3, rfl⟩ := ho3.shape0
    rw [HL.out] at ho3 ⊢
    have hs2 := HB2.out.size
    have HB3 := Lib.hid (HB2.out.trans (hb3.mono hs2))
    have HO23 := Lib.hid (HO2.out.keep hb3)
    have HO3 := Lib.hid ho3
    clear ho3 hb3
    go_wp2_with fail
    go_loopw [10, 11, 12] (fun i q1 q2 wr => ∃ k : Nat, k ≤ L ∧ i = .int .i64 k ∧ Hid (Below w3.heap.size w3 wr)) (fun i _ _ _ => L - (intOf i).toNat)
    case atStart => exact ⟨0, Nat.zero_le _, rfl, Lib.hid (Below.refl _ _)⟩
    case round =>
      rename World => wo
      obtain ⟨k, hk, rfl, hbel⟩ := hrel
      have hso := hbel.out.size
      have hs3 := HB3.out.size
      by_cases hkl : k < L
      · obtain ⟨N, X, hX0, hX1, hxd, hx0, hx1, hd0, hd1, hXi, hpv, hpc, hI1, hI2⟩ := hpo.out k (by rw [HL.out]; exact hkl)
        obtain ⟨g2, k2, e2, -, hg2, hc2⟩ := (HO23.out.keep hbel.out).cells (by rw [HL.out]; omega)
        obtain ⟨g3, k3, e3, -, hg3, hc3⟩ := (HO3.out.keep hbel.out).cells (by rw [HL.out]; omega)
        simp only [Value.slice.injEq] at e2 e3
        obtain ⟨rfl, -, -⟩ := e2
        obtain ⟨rfl, -, -⟩ := e3
        obtain ⟨p0, p1⟩ := hc2 k (by rw [HL.out]; exact hkl)
        obtain ⟨q0, q1⟩ := hc3 k (by rw [HL.out]; exact hkl)
        have HPI := Lib.hid (fun w => PlaceIndex_any m (nthP es k).1 (nthP es k).2 w hI1 hI2)
        rw [hpv, hpc] at HPI
        generalize nthP es k = p at p0 p1 q0 q1 HPI
        obtain ⟨pr, pq⟩ := p
        simp only at p0 p1 q0 q1
        have hw1 : IntKind.i64.wrap (x * d) = X := by rw [hxd]; exact i64_in (by omega)
        have hw2 : IntKind.i64.wrap X = X := i64_in (by omega)
        have hq1 : (pr == pr) = true := by simp
        have hq2 : (pq == pq) = true := by simp
        have hq3 : ((X + (k : Int)) != (X + (k : Int))) = false := by simp
        clear hc2 hc3 hpv hpc hI1 hI2
        go_wp2_with fail
        go_at_call 15
        with_reducible refine (HPI.out _).mono ?_
        rintro e4 w4 ⟨rfl, hb4⟩
        obtain ⟨hc4, hf4⟩ := bcell hb4
        have hs4 := hb4.size
        have HB4 := Lib.hid (hbel.out.trans (hb4.mono hso))
        have p0' := (hc4 _ _ hg2).trans p0
        have p1' := (hc4 _ _ hg2).trans p1
        have q0' := (hc4 _ _ hg3).trans q0
        have q1' := (hc4 _ _ hg3).trans q1
        have hz2 : g2 < w4.heap.size := by omega
        have hz3 : g3 < w4.heap.size := by omega
        clear hc4 hf4 hb4 p0 p1 q0 q1
        go_wp2_with fail
        go_quiet (fail)
        go_wp2_with fail
        go_roundw
        case rel => exact ⟨k + 1, by omega, by go_num, Lib.hid (below_drewN' HB4.out _)⟩
        case measure => simp [intOf]; omega
      · obtain rfl : k = L := by omega
        have HBo := Lib.hid (HB3.out.trans (hbel.out.mono hs3))
        go_wp2_with fail
        go_at_call 16
        with_reducible refine (HD2.out _ HBo.out).mono ?_
        rintro e5 w5 ⟨u5, rfl, ⟨m', r', d', rfl, hI1, hI2⟩, hb5⟩
        have HB5 := Lib.hid (HBo.out.trans (hb5.mono HBo.out.size))
        have P1 := fun w => PlaceIndex_any m' r' d' w hI1 hI2
        have P2 := fun w => sPlaceIndex_any m' r' d' w
        generalize piV m' r' d' = V at P1 P2
        generalize piC m' r' d' = Q at P1 P2
        have HP1 := Lib.hid P1
        have HP2 := Lib.hid P2
        have h3 : (V == V) = true := by simp
        have h4 : (Q == Q) = true := by simp
        have hs5 := HB5.out.size
        clear P1 P2 hI1 hI2 hb5
        go_wp2_with fail
        go_at_call 15
        with_reducible refine (HP1.out _).mono ?_
        rintro e6 w6 ⟨rfl, hb6⟩
        obtain ⟨hc6, hf6⟩ := bcell hb6
        have z0 : w6.cell? ⟨w5.heap.size, 0, none⟩ = some (.int .i64 r') := (hc6 _ _ (by simp)).trans (by go_simp)
        have z1 : w6.cell? ⟨w5.heap.size, 1, none⟩ = some (.int .i64 d') := (hc6 _ _ (by simp)).trans (by go_simp)
        have hs6 := hb6.size
        simp only [World.size_alloc] at hs6
        have HB6 := Lib.hid ((HB5.out.alloc hs5 (.cells #[.int .i64 r', .int .i64 d'] 32)).trans (hb6.mono (by simp; omega)))
        clear hc6 hf6 hb6
        go_wp2_with fail
        go_at_call 17
        with_reducible refine (HP2.out _).mono ?_
        rintro e7 w7 ⟨rfl, hb7⟩
        have HB7 := Lib.hid (HB6.out.trans (hb7.mono HB6.out.size))
        clear hb7
        go_wp2_with fail
        go_ret
        exact ⟨by simp, HB7.out⟩
set_option maxRecDepth 100000 in
theorem lifted_FnPlaceOrder (os : Os) (started : os.Started) (H : Type) (enc : TypeId × Value → H) :
    ReturnsInHanded {} Try.checked os 3 .any (Rows.fnPlaceOrderSpec.pre6 enc Try.prog Try.f3 Rows.fnPlaceOrderRow.domain false) (Rows.fnPlaceOrderSpec.post enc Try.prog Try.f3 false true false false) := by
  refine law_lifted (C := Try.checked) (tb := 4) own started (by kernel_rfl) Try.func3
    (ChangeSpec.witness6 (enc := enc) (C := Try.checked) false ⟨#[], #[.slice none 0 0], []⟩ 8 (by kernel_rfl) (by kernel_rfl) (by kernel_rfl) (by kernel_rfl))
    laidOut (by kernel_rfl) rfl rfl Try.underlying4 ?_ ?_
  · intro ds hd
    match ds, hd with
    | [e0], _ => rfl
  · intro W base args ds p hval hA hlt hsz
    have hval1 : ∀ (j : Nat) t v, Try.f3.params[j]? = some t → args[j]? = some v → Value.okWide Try.prog W .any base t v := hval
    have hA1 : DataW.TrodAll enc Try.prog W 0 (fun _ => true) true Try.f3.params.toList args.toList ds p := hA
    have hsz1 : (DataW.weightsEach Try.prog Try.f3.params.toList ds).all (· ≤ reachBytes) = true := hsz
    rw [Try.params3] at hval1 hA1 hsz1
    clear hval hA hsz
    obtain ⟨v0, d0, rfl, rfl, h0⟩ := trodAll_one hA1
    obtain ⟨A, n, c, bs, rfl, hr, _⟩ := arg_bytes Try.underlying22 Try.underlying5 (by kernel_rfl) (hval1 0 22 v0 rfl rfl) h0 (fun x hx => hlt x (by simp [hx]))
    exact lawFnPlaceOrder A n c bs W hr
theorem holds_FnPlaceOrder : Rows.FnPlaceOrderSaid :=
  OpenClaim.holds_of_wide 3 Try.f3 rfl rfl rfl rfl rfl rfl rfl ⟨rfl, rfl, rfl, rfl, rfl⟩ rfl rfl rfl rfl rfl (by kernel_rfl) Try.func3 (by kernel_rfl)
    (of_decide_eq_true (by kernel_rfl)) (by unfold Func.isWrapper; first | (rw [if_pos (by decide +kernel)]; kernel_rfl) | (rw [if_neg (by decide +kernel)]; exact ⟨rfl, rfl⟩))
    (fun os started H enc _ => lifted_FnPlaceOrder os started H enc)

end Go.Proofs.Yteghpageamehkaa
