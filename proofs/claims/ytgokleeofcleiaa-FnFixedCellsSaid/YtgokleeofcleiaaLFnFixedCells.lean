/-
  The row FnFixedCells: fixed cells, format places and data cells of a drawn size are all cells of a symbol; no condition.
-/
import Derived.Test.YtgokleeofcleiaaGAt
import Derived.Test.YtgokleeofcleiaaC14X
import Derived.Test.YtgokleeofcleiaaC14U
import Derived.Test.YtgokleeofcleiaaC15C
import Derived.Test.YtgokleeofcleiaaC15E
import Derived.Test.YtgokleeofcleiaaSrc
import Derived.Test.YtgokleeofcleiaaRegOwn
namespace Go.Proofs.Ytgokleeofcleiaa
set_option linter.unusedSimpArgs false
open Go.ChangeShapes Go.WideShapes Go.ChangeAt Go.RowKit Go.Deep

set_option maxRecDepth 20000 in
set_option maxHeartbeats 4000000 in
theorem lawFnFixedCells (A : Option Addr) (n c : Nat) (bs : List Int) (w : World) (hr : RB w w.heap.size A n bs) :
    Calls Try.prog 8 #[.slice A n c] w fun e' w' => e' = .returned (.bool true) ∧ Below w.heap.size w w' := by
  have HR := Lib.hid hr
  clear hr
  by_cases hbig : 4096 < n
  · have hbd : decide (4096 < n) = true := decide_eq_true hbig
    go_enter Try.func8, Try.ntmps8
    go_wp2_with (go_at_call 28; go_call (big_any _ _ _ _) as e0 w0 ⟨rfl, hb0⟩; obtain ⟨hc0, hf0⟩ := bcell hb0; have hB0 : Below w.heap.size w w0 := (below_then (by first | (go_grown; done) | (repeat (first | (with_reducible assumption) | (with_reducible exact Below.refl _ _) | (with_reducible refine below_drewN' ?_ _) | (with_reducible refine Below.drew ?_) | ((with_reducible refine Below.alloc ?_ ?_ _); rotate_left; focus (first | (simp; done) | (simp; omega) | omega)) | ((with_reducible refine Below.setCell ?_ ?_ _); rotate_left; focus (first | (simp; done) | (simp; omega) | omega))))) (by first | omega | (simp; done) | (simp; omega)) hb0))
    go_ret
    exact ⟨rfl, by (repeat (first | (with_reducible assumption) | (with_reducible exact Below.refl _ _) | (with_reducible refine below_drewN' ?_ _) | (with_reducible refine Below.drew ?_) | ((with_reducible refine Below.alloc ?_ ?_ _); rotate_left; focus (first | (simp; done) | (simp; omega) | omega)) | ((with_reducible refine Below.setCell ?_ ?_ _); rotate_left; focus (first | (simp; done) | (simp; omega) | omega))))⟩
  · have hbd : decide (4096 < n) = false := decide_eq_false hbig
    have HD := Lib.hid (fun (w' : World) (hb : Below w.heap.size w w') => DrawFixedGrid_any A n c bs w.heap.size w' (HR.out.below hb) hb.size (by omega))
    go_enter Try.func8, Try.ntmps8
    go_wp2_with first | (go_at_call 28; go_call (big_any _ _ _ _) as e0 w0 ⟨rfl, hb0⟩; obtain ⟨hc0, hf0⟩ := bcell hb0; have hB0 : Below w.heap.size w w0 := (below_then (by first | (go_grown; done) | (repeat (first | (with_reducible assumption) | (with_reducible exact Below.refl _ _) | (with_reducible refine below_drewN' ?_ _) | (with_reducible refine Below.drew ?_) | ((with_reducible refine Below.alloc ?_ ?_ _); rotate_left; focus (first | (simp; done) | (simp; omega) | omega)) | ((with_reducible refine Below.setCell ?_ ?_ _); rotate_left; focus (first | (simp; done) | (simp; omega) | omega))))) (by first | omega | (simp; done) | (simp; omega)) hb0))
    go_at_call 29
    with_reducible refine (HD.out _ hB0).mono ?_
    rintro e1 w1 ⟨u1, rfl, ⟨m, rfl⟩, hb1⟩
    have HB1 := Lib.hid (hB0.trans (hb1.mono hB0.size))
    obtain ⟨L, hL⟩ : ∃ L, (fgL m).length = L := ⟨_, rfl⟩
    have hle := fgL_len m
    rw [hL] at hle
    have P1 := Lib.hid (fun w => FixedGrid_any m w)
    have P2 := Lib.hid (fun w => sFixedGrid_any m w)
    have P3 := Lib.hid (fun w => DataCount_any m w)
    have P4 := Lib.hid (fun w => sDataCount_any m w)
    have h1 : (fgC m != fgC m) = false := by simp
    have h2 : (dcV m != dcV m) = false := by simp
    have hfg : Hid (sizeB m = false → fgC m = 2 ∧ dcV m = 0) := Lib.hid (fun h => by simp [fgC, dcV, h])
    have hft : Hid (∀ N : Nat, m = N → 17 ≤ N ∧ N ≤ 41 ∧ N % 4 = 1 → fgC m = 0 ∧ dcV m = ((dataL N).length : Nat) ∧ fgL m = fixL N ∧ fgN m = N) := Lib.hid (fun N e h => by
      subst e; simp [fgC, dcV, fgL, fgN, size_nat h])
    generalize fgL m = xs at P1 P2 hL hft
    generalize fgN m = NN at P1 P2 hft
    generalize fgC m = C at P1 P2 h1 hfg hft
    generalize dcV m = D at P3 P4 h2 hfg hft
    have HL := Lib.hid hL
    clear hb0 hb1 hB0 hc0 hf0 hL
    go_wp2_with fail
    go_at_call 19
    with_reducible refine (P1.out _).mono ?_
    rintro e2 w2 ⟨u2, rfl, ho2, hb2⟩
    obtain ⟨A2, c2, rfl, hr2⟩ := ho2.shape
    rw [HL.out] at hr2 ⊢
    have hs1 := HB1.out.size
    have HB2 := Lib.hid ((HB1.out.trans (hb2.mono hs1)).alloc (Nat.le_trans hs1 hb2.size) (.cells #[.int .i64 NN, .int .i64 NN, .slice A2 L c2] 28))
    have hs2 := hb2.size
    have G2 := Lib.hid (GAt.made (r := NN) (c := NN) (cp := c2) hr2 (Nat.le_refl _))
    clear ho2 hr2 hb2
    go_wp2_with fail
    go_at_call 18
    with_reducible refine (P2.out _).mono ?_
    rintro e3 w3 ⟨u3, rfl, ho3, hb3⟩
    obtain ⟨A3, c3, rfl, hr3⟩ := ho3.shape
    rw [HL.out] at hr3 ⊢
    have hs3 := hb3.size
    simp only [World.size_alloc] at hs3
    have HB3 := Lib.hid ((HB2.out.trans (hb3.mono HB2.out.size)).alloc (by omega) (.cells #[.int .i64 NN, .int .i64 NN, .slice A3 L c3] 28))
    have G3 := Lib.hid ((G2.out.below hb3).alloc (.cells #[.int .i64 NN, .int .i64 NN, .slice A3 L c3] 28))
    have K3 := Lib.hid (GAt.made (r := NN) (c := NN) (cp := c3) hr3 (Nat.le_refl _))
    clear ho3 hr3 hb3
    obtain ⟨a0, a1, a2, -⟩ := G3.out.c3
    obtain ⟨b0, b1, b2, -⟩ := K3.out.c3
    go_wp2_with fail
    go_at_call 30
    with_reducible refine (likeG_eq NN NN A2 A3 L c2 c3 xs _ _ _ G3.out.ri K3.out.ri (Nat.le_refl _) (Nat.le_refl _) (by omega)).mono ?_
    rintro e4 w4 ⟨rfl, hb4⟩
    have hs4 := hb4.size
    simp only [World.size_alloc] at hs4
    have HB4 := Lib.hid (HB3.out.trans (hb4.mono HB3.out.size))
    have G4 := Lib.hid (G3.out.below hb4)
    clear hb4 a0 a1 a2 b0 b1 b2
    go_wp2_with fail
    go_at_call 23
    with_reducible refine (P3.out _).mono ?_
    rintro e5 w5 ⟨rfl, hb5⟩
    have hs5 := hb5.size
    have HB5 := Lib.hid (HB4.out.trans (hb5.mono HB4.out.size))
    have G5 := Lib.hid (G4.out.below hb5)
    clear hb5
    go_wp2_with fail
    go_at_call 22
    with_reducible refine (P4.out _).mono ?_
    rintro e6 w6 ⟨rfl, hb6⟩
    have hs6 := hb6.size
    have HB6 := Lib.hid (HB5.out.trans (hb6.mono HB5.out.size))
    have G6 := Lib.hid (G5.out.below hb6)
    clear hb6
    cases hsz : sizeB m
    · obtain ⟨rfl, rfl⟩ := hfg.out hsz
      go_wp2_with fail
      go_at_call 23
      with_reducible refine (P3.out _).mono ?_
      rintro e7 w7 ⟨rfl, hb7⟩
      have HB7 := Lib.hid (HB6.out.trans (hb7.mono HB6.out.size))
      go_wp2_with fail
      go_ret
      exact ⟨rfl, HB7.out⟩
    · obtain ⟨N, rfl, hN0, hN1, hN2⟩ := sizeB_true hsz
      obtain ⟨rfl, rfl, rfl, rfl⟩ := hft.out N rfl ⟨hN0, hN1, hN2⟩
      have P5 := Lib.hid (fun w => FormatPlaces_any N w ⟨hN0, hN1, hN2⟩)
      have hN : 17 ≤ N ∧ N ≤ 41 ∧ N % 4 = 1 := ⟨hN0, hN1, hN2⟩
      have P6 := Lib.hid (fun w => DataPlaces_any N w)
      have hpC : dpC (N : Int) = 0 := by simp [dpC, size_nat hN]
      have hpR : dpR (N : Int) = dataL N := by simp [dpR, size_nat hN]
      rw [hpC, hpR] at P6
      have HDF := Lib.hid (fun (k : Nat) (hk : k < (dataL N).length) => data_free hN hk)
      have hdc := data_count hN
      have hdl := dataL_le hN1
      have HG := Lib.hid (fixL_grid hN)
      have HFL := Lib.hid (fixL_len N)
      obtain ⟨ds, hds⟩ : ∃ ds, dataL N = ds := ⟨_, rfl⟩
      rw [hds] at P6 HDF hdc hdl P3
      simp only [hds]
      obtain ⟨D, hD⟩ : ∃ D, ds.length = D := ⟨_, rfl⟩
      rw [hD] at HDF hdc hdl P3
      simp only [hD]
      have HD0 := Lib.hid hD
      have HDC := Lib.hid hdc
      have hLN : L = N * N := by rw [← HL.out, HFL.out]
      subst hLN
      clear hpC hpR hds hD hdc
      go_wp2_with fail
      go_at_call 31
      with_reducible refine (P5.out _).mono ?_
      rintro e7 w7 ⟨va, vb, rfl, hT7, hb7⟩
      obtain ⟨Aa, ca, rfl⟩ := hT7.1.form
      obtain ⟨Ab, cb, rfl⟩ := hT7.2.1.form
      have HB7 := Lib.hid (HB6.out.trans (hb7.mono HB6.out.size))
      have G7 := Lib.hid (G6.out.below hb7)
      clear hT7 hb7
      go_wp2_with fail
      go_at_call 32
      with_reducible refine (P6.out _).mono ?_
      rintro e8 w8 ⟨v8, rfl, ho8, hb8⟩
      obtain ⟨A8, c8, rfl⟩ := ho8.form
      rw [HD0.out] at ho8 ⊢
      have HO8 := Lib.hid ho8
      have HB8 := Lib.hid (HB7.out.trans (hb8.mono HB7.out.size))
      have G8 := Lib.hid (G7.out.below hb8)
      have hg8 := G8.out.lt
      clear ho8 hb8
      obtain ⟨a0, a1, a2, -⟩ := G8.out.c3
      obtain ⟨b, o, rfl, hbg, hcl⟩ := G8.out.ri.cells (Nat.mul_pos (by omega) (by omega))
      have HCL := Lib.hid hcl
      clear hcl h1 h2 hfg hft
      go_wp2_with fail
      go_loop [13, 14] (fun q i => ∃ k : Nat, k ≤ N * N ∧ i = .int .i64 k ∧ q = .int .i64 ((cnt negB ((fixL N).take k) : Nat) : Int)) (fun _ i => N * N - (intOf i).toNat)
      case atStart => exact ⟨0, Nat.zero_le _, rfl, rfl⟩
      case round =>
        obtain ⟨k, hk, rfl, rfl⟩ := hrel
        by_cases hlt : k < N * N
        · have hck := HCL.out k hlt
          have hle2 := cnt_take_le negB (fixL N) k
          have hst := cnt_take (p := negB) (xs := fixL N) (k := k) (by rw [HFL.out]; exact hlt)
          have HS := Lib.hid hst
          clear hst
          by_cases he : nth (fixL N) k < 0
          · go_wp2_with fail
            go_round
            case rel => exact ⟨k + 1, by omega, by go_num, by rw [HS.out]; simp [negB, he]⟩
            case measure => simp [intOf]; omega
          · go_wp2_with fail
            go_round
            case rel => exact ⟨k + 1, by omega, by go_num, by rw [HS.out]; simp [negB, he]⟩
            case measure => simp [intOf]; omega
        · have hkn : k = N * N := by omega
          have hA : ((cnt negB ((fixL N).take k) : Nat) : Int) = 30 + (D : Int) := by rw [hkn, List.take_of_length_le (by rw [HFL.out]; exact Nat.le_refl _), ← HDC.out]; omega
          rw [hA]
          clear hA
          go_wp2_with fail
          clear hkn hlt hk
          go_loopw [15, 16, 17] (fun i q1 q2 wr => ∃ k : Nat, k ≤ D ∧ i = .int .i64 k ∧ Hid (Below w8.heap.size w8 wr)) (fun i _ _ _ => D - (intOf i).toNat)
          case atStart => exact ⟨0, Nat.zero_le _, rfl, Lib.hid (Below.refl _ _)⟩
          case round =>
            rename World => wo
            obtain ⟨k, hk, rfl, hbel⟩ := hrel
            have hso := hbel.out.size
            have Go := Lib.hid (G8.out.below hbel.out)
            have HBo := Lib.hid (HB8.out.trans (hbel.out.mono HB8.out.size))
            have hgo := Go.out.lt
            by_cases hkl : k < D
            · obtain ⟨R, C, hrc, hR, hC, hv⟩ := HDF.out k hkl
              obtain ⟨g2, k2, e2, -, hg2, hc2⟩ := (HO8.out.keep hbel.out).cells (by rw [HD0.out]; omega)
              simp only [Value.slice.injEq] at e2
              obtain ⟨rfl, -, -⟩ := e2
              obtain ⟨p0, p1⟩ := hc2 k (by rw [HD0.out]; exact hkl)
              rw [hrc] at p0 p1
              simp only at p0 p1
              have HCA := Lib.hid (fun (w' : World) (hb : Below wo.heap.size wo w') => CellAt_any N R C b o c2 (fixL N) w' wo.heap.size (Go.out.ri.below hb) hb.size hN1 hR hC HG.out)
              rw [hv] at HCA
              clear hc2 hrc hv
              obtain ⟨a0, a1, a2, -⟩ := Go.out.c3
              have hBo := HBo.out
              go_wp2_with fail
              refine wp_region_qat [] 17 [] (by kernel_rfl) (by kernel_rfl) ?_
              intro hbc
              simp only [List.take_succ_cons, List.take_zero, List.drop_succ_cons, List.drop_zero]
              repeat (first
                | refine wpQ_pass rfl ?_
                | (refine wpQ_step rfl (fun K hK => ?_)
                   go_simp
                   first
                     | (refine hK _ ?_; clear hK K)
                     | (apply Exists.intro
                        refine ⟨fun z => ?_, ?_⟩
                        focus (first | (go_at_call 33; exact HCA.out _ z.below))
                        refine hK _ ?_
                        clear hK K)))
              refine wpQ_nil ⟨?_, ?_⟩
              · exact rfl
              intro  w9 hb9 hF9
              clear hbc
              obtain ⟨hc9, hf9⟩ := bcell hb9
              have hB9 : Below w.heap.size w w9 := below_then (by first | (go_grown; done) | (repeat (first | (with_reducible assumption) | (with_reducible exact Below.refl _ _) | (with_reducible refine below_drewN' ?_ _) | (with_reducible refine Below.drew ?_) | ((with_reducible refine Below.alloc ?_ ?_ _); rotate_left; focus (first | (simp; done) | (simp; omega) | omega)) | ((with_reducible refine Below.setCell ?_ ?_ _); rotate_left; focus (first | (simp; done) | (simp; omega) | omega))))) (by first | (simp; done) | (simp; omega) | omega) hb9
              clear hF9
              try simp only [Act.put, List.setIfInBounds_toArray, List.set_cons_succ, List.set_cons_zero]
              have HB9 := Lib.hid (hbel.out.trans (hb9.mono hso))
              clear hb9
              go_wp2_with fail
              go_roundw
              case rel => exact ⟨k + 1, by omega, by go_num, HB9⟩
              case measure => simp [intOf]; omega
            · obtain rfl : k = D := by omega
              have hBo := HBo.out
              clear hk hkl
              go_wp2_with fail
              go_at_call 23
              with_reducible refine (P3.out _).mono ?_
              rintro e9 w9 ⟨rfl, hb9⟩
              have HB9 := Lib.hid (hBo.trans (hb9.mono hBo.size))
              go_wp2_with fail
              go_at_call 23
              with_reducible refine (P3.out _).mono ?_
              rintro e10 w10 ⟨rfl, hb10⟩
              have HB10 := Lib.hid (HB9.out.trans (hb10.mono HB9.out.size))
              go_wp2_with fail
              go_ret
              exact ⟨by simp, HB10.out⟩
set_option maxRecDepth 100000 in
theorem lifted_FnFixedCells (os : Os) (started : os.Started) (H : Type) (enc : TypeId × Value → H) :
    ReturnsInHanded {} Try.checked os 8 .any (Rows.fnFixedCellsSpec.pre6 enc Try.prog Try.f8 Rows.fnFixedCellsRow.domain false) (Rows.fnFixedCellsSpec.post enc Try.prog Try.f8 false true false false) := by
  refine law_lifted (C := Try.checked) (tb := 4) own started (by kernel_rfl) Try.func8
    (ChangeSpec.witness6 (enc := enc) (C := Try.checked) false ⟨#[], #[.slice none 0 0], []⟩ 8 (by kernel_rfl) (by kernel_rfl) (by kernel_rfl) (by kernel_rfl))
    laidOut (by kernel_rfl) rfl rfl Try.underlying4 ?_ ?_
  · intro ds hd
    match ds, hd with
    | [e0], _ => rfl
  · intro W base args ds p hval hA hlt hsz
    have hval1 : ∀ (j : Nat) t v, Try.f8.params[j]? = some t → args[j]? = some v → Value.okWide Try.prog W .any base t v := hval
    have hA1 : DataW.TrodAll enc Try.prog W 0 (fun _ => true) true Try.f8.params.toList args.toList ds p := hA
    have hsz1 : (DataW.weightsEach Try.prog Try.f8.params.toList ds).all (· ≤ reachBytes) = true := hsz
    rw [Try.params8] at hval1 hA1 hsz1
    clear hval hA hsz
    obtain ⟨v0, d0, rfl, rfl, h0⟩ := trodAll_one hA1
    obtain ⟨A, n, c, bs, rfl, hr, _⟩ := arg_bytes Try.underlying39 Try.underlying5 (by kernel_rfl) (hval1 0 39 v0 rfl rfl) h0 (fun x hx => hlt x (by simp [hx]))
    exact lawFnFixedCells A n c bs W hr
theorem holds_FnFixedCells : Rows.FnFixedCellsSaid :=
  OpenClaim.holds_of_wide 8 Try.f8 rfl rfl rfl rfl rfl rfl rfl ⟨rfl, rfl, rfl, rfl, rfl⟩ rfl rfl rfl rfl rfl (by kernel_rfl) Try.func8 (by kernel_rfl)
    (of_decide_eq_true (by kernel_rfl)) (by unfold Func.isWrapper; first | (rw [if_pos (by decide +kernel)]; kernel_rfl) | (rw [if_neg (by decide +kernel)]; exact ⟨rfl, rfl⟩))
    (fun os started H enc _ => lifted_FnFixedCells os started H enc)

end Go.Proofs.Ytgokleeofcleiaa
