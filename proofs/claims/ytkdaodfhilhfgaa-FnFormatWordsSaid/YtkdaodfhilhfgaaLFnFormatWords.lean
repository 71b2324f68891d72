/-
  The row FnFormatWords: the sum of two format words is a format word, and no two are nearer than the minimum distance; no condition.
-/
import Derived.Test.YtkdaodfhilhfgaaArgB
import Derived.Test.YtkdaodfhilhfgaaC08V
import Derived.Test.YtkdaodfhilhfgaaC01X
import Derived.Test.YtkdaodfhilhfgaaC08T
import Derived.Test.YtkdaodfhilhfgaaLFormatText
namespace Go.Proofs.Ytkdaodfhilhfgaa
set_option linter.unusedSimpArgs false
open Go.ChangeShapes Go.WideShapes Go.ChangeAt Go.RowKit

theorem fw_zero {d l p v : Int} (h : fwC d l p v = 0) : ∃ D k P V : Nat, d = D ∧ l = (D : Int) + k ∧ p = P ∧ v = V ∧ 1 ≤ D ∧ D ≤ 8 ∧ 1 ≤ k ∧ D + k ≤ 24 ∧ polyOk P k ∧ V < 2 ^ D ∧ fcodeB d l p = true := by
  cases hc : fcodeB d l p
  · rw [(fw_no1 hc).1] at h; cases h
  · obtain ⟨D, k, P, rfl, rfl, rfl, hD0, hD, hk0, hk, hDk, hp⟩ := fcodeB_true hc
    rcases inR_pow (D := D) (v := v) with ⟨_, V, rfl, hV⟩ | ⟨h2, _⟩
    · exact ⟨D, k, P, V, rfl, rfl, rfl, rfl, hD0, hD, hk0, hDk, hp, hV, rfl⟩
    · rw [(fw_no2 hc h2).1] at h; cases h
theorem inR_nat {D V : Nat} (h : V < 2 ^ D) : inR (V : Int) 0 (2 ^ D - 1) = true := by
  have e3 : ((2 ^ D : Nat) : Int) = (2 : Int) ^ D := by simp
  unfold inR; simp; omega
theorem bits_all01 (w v : Nat) : all01 (bitsL w v) := fun _ h => bitsL_01 h
set_option maxHeartbeats 4000000 in
theorem lawFnFormatWords (A : Option Addr) (n c : Nat) (bs : List Int) (w : World) (hr : RB w w.heap.size A n bs) :
    Calls Try.prog 8 #[.slice A n c] w fun e' w' => e' = .returned (.bool true) ∧ Below w.heap.size w w' := by
  have HR := Lib.hid hr
  clear hr
  by_cases hbig : 4096 < n
  · have hbd : decide (4096 < n) = true := decide_eq_true hbig
    go_enter Try.func8, Try.ntmps8
    go_wp2_with (go_at_call 26; go_call (big_any _ _ _ _) as e0 w0 ⟨rfl, hb0⟩; obtain ⟨hc0, hf0⟩ := bcell hb0; have hB0 : Below w.heap.size w w0 := (below_then (by first | (go_grown; done) | (repeat (first | (with_reducible assumption) | (with_reducible exact Below.refl _ _) | (with_reducible refine below_drewN' ?_ _) | (with_reducible refine Below.drew ?_) | ((with_reducible refine Below.alloc ?_ ?_ _); rotate_left; focus (first | (simp; done) | (simp; omega) | omega)) | ((with_reducible refine Below.setCell ?_ ?_ _); rotate_left; focus (first | (simp; done) | (simp; omega) | omega))))) (by first | omega | (simp; done) | (simp; omega)) hb0))
    go_ret
    exact ⟨rfl, by (repeat (first | (with_reducible assumption) | (with_reducible exact Below.refl _ _) | (with_reducible refine below_drewN' ?_ _) | (with_reducible refine Below.drew ?_) | ((with_reducible refine Below.alloc ?_ ?_ _); rotate_left; focus (first | (simp; done) | (simp; omega) | omega)) | ((with_reducible refine Below.setCell ?_ ?_ _); rotate_left; focus (first | (simp; done) | (simp; omega) | omega))))⟩
  · have hbd : decide (4096 < n) = false := decide_eq_false hbig
    have HD := Lib.hid (fun (w' : World) (hb : Below w.heap.size w w') => DrawFormatWord_any A n c bs w.heap.size w' (HR.out.below hb) hb.size (by omega))
    go_enter Try.func8, Try.ntmps8
    go_wp2_with first | (go_at_call 26; go_call (big_any _ _ _ _) as e0 w0 ⟨rfl, hb0⟩; obtain ⟨hc0, hf0⟩ := bcell hb0; have hB0 : Below w.heap.size w w0 := (below_then (by first | (go_grown; done) | (repeat (first | (with_reducible assumption) | (with_reducible exact Below.refl _ _) | (with_reducible refine below_drewN' ?_ _) | (with_reducible refine Below.drew ?_) | ((with_reducible refine Below.alloc ?_ ?_ _); rotate_left; focus (first | (simp; done) | (simp; omega) | omega)) | ((with_reducible refine Below.setCell ?_ ?_ _); rotate_left; focus (first | (simp; done) | (simp; omega) | omega))))) (by first | omega | (simp; done) | (simp; omega)) hb0))
    have hw0 := hB0.size
    (go_at_call 27; go_call (HD.out _ hB0) as e1 w1 ⟨u1, rfl, ⟨d, l, p, v, rfl, hfr, hv0, hv1⟩, hb1⟩; obtain ⟨hc1, hf1⟩ := bcell hb1; have hB1 : Below w.heap.size w w1 := (below_then (by first | (go_grown; done) | (repeat (first | (with_reducible assumption) | (with_reducible exact Below.refl _ _) | (with_reducible refine below_drewN' ?_ _) | (with_reducible refine Below.drew ?_) | ((with_reducible refine Below.alloc ?_ ?_ _); rotate_left; focus (first | (simp; done) | (simp; omega) | omega)) | ((with_reducible refine Below.setCell ?_ ?_ _); rotate_left; focus (first | (simp; done) | (simp; omega) | omega))))) (by first | omega | (simp; done) | (simp; omega)) hb1))
    have hL := hfr.l
    have hw1 := hB1.size
    have HFW := Lib.hid (fun w => FormatWord_any d l p v w hL)
    have HSW := Lib.hid (fun w => sFormatWord_any d l p v w hL)
    have HFT := Lib.hid (fun w => FormatText_any d l p v w hL)
    have HST := Lib.hid (fun w => sFormatText_any d l p v w hL)
    have HIF := Lib.hid (fun w => IsFormatCode_any d l p w hL)
    have HIS := Lib.hid (fun w => sIsFormatCode_any d l p w hL)
    have hlx : (fwL d l p v).length ≤ 100 := by
      unfold fwL
      split
      · rename_i h
        obtain ⟨D, k, P, rfl, rfl, rfl, hD0, hD, hk0, hk, hDk, hp⟩ := fcodeB_true h
        split
        · rw [bitsL_len]; omega
        · exact Nat.zero_le _
      · exact Nat.zero_le _
    have HC0 := Lib.hid (@fw_zero d l p v)
    generalize hxs : fwL d l p v = xs at HFW HSW hlx
    generalize hC : fwC d l p v = C at HFW HSW HC0
    generalize ftS d l p v = S at HFT HST
    generalize hfc : fcodeB d l p = FB at HIF HIS
    have HXS := Lib.hid hxs
    have HCC := Lib.hid hC
    clear hc0 hf0 hc1 hf1 hfr hxs hC hfc
    have h1 : (C != C) = false := by simp
    have h3 : (FB != FB) = false := by simp
    go_wp2_with fail
    (go_at_call 13; with_reducible refine (HFW.out _).mono ?_; rintro e2 w2 ⟨v2, rfl, ho2, hb2⟩; obtain ⟨hc2, hf2⟩ := bcell hb2; have hB2 : Below w.heap.size w w2 := (below_then (by first | (go_grown; done) | (repeat (first | (with_reducible assumption) | (with_reducible exact Below.refl _ _) | (with_reducible refine below_drewN' ?_ _) | (with_reducible refine Below.drew ?_) | ((with_reducible refine Below.alloc ?_ ?_ _); rotate_left; focus (first | (simp; done) | (simp; omega) | omega)) | ((with_reducible refine Below.setCell ?_ ?_ _); rotate_left; focus (first | (simp; done) | (simp; omega) | omega))))) (by first | omega | (simp; done) | (simp; omega)) hb2); have hz2a : w.heap.size < w2.heap.size := (by have := hb2.size; first | omega | (simp at this; omega)); have hz2b : w1.heap.size < w2.heap.size := (by have := hb2.size; first | omega | (simp at this; omega)))
    obtain ⟨A2, c2, rfl, hr2⟩ := ho2.shape
    generalize hlen : xs.length = L at hr2 hlx ⊢
    have HLx := Lib.hid hlen
    have HR2 := Lib.hid hr2
    clear ho2 hr2
    go_wp2_with fail
    (go_at_call 11; with_reducible refine (HSW.out _).mono ?_; rintro e3 w3 ⟨v3, rfl, ho3, hb3⟩; obtain ⟨hc3, hf3⟩ := bcell hb3; have hB3 : Below w.heap.size w w3 := (below_then (by first | (go_grown; done) | (repeat (first | (with_reducible assumption) | (with_reducible exact Below.refl _ _) | (with_reducible refine below_drewN' ?_ _) | (with_reducible refine Below.drew ?_) | ((with_reducible refine Below.alloc ?_ ?_ _); rotate_left; focus (first | (simp; done) | (simp; omega) | omega)) | ((with_reducible refine Below.setCell ?_ ?_ _); rotate_left; focus (first | (simp; done) | (simp; omega) | omega))))) (by first | omega | (simp; done) | (simp; omega)) hb3); have hz3a : w.heap.size < w3.heap.size := (by have := hb3.size; first | omega | (simp at this; omega)); have hz3b : w1.heap.size < w3.heap.size := (by have := hb3.size; first | omega | (simp at this; omega)))
    obtain ⟨A3, c3, rfl, hr3⟩ := ho3.shape
    rw [HLx.out] at hr3 ⊢
    have HR3 := Lib.hid hr3
    have HR2' := Lib.hid ((HR2.out.below hb3).more hb3.size)
    have HG3 := Lib.hid (blk_below (blk_below (heap_alloc_new w1 (.cells #[.int .i64 d, .int .i64 l, .int .i64 p] 27)) hb2 (by simp)) hb3 (by omega))
    obtain ⟨y0, y1, y2, -⟩ := blk3 HG3.out
    have HLK := Lib.hid (fun (w' : World) (hb : Below w3.heap.size w3 w') => (likeInts_any A2 A3 L L c2 c3 xs xs w' w3.heap.size w3.heap.size (HR2'.out.below hb) (HR3.out.below hb) (by omega) (by omega)).mono fun e w'' ⟨he, m, hm⟩ => (show e = Ending.returned (.bool (xs == xs)) ∧ Below w'.heap.size w' w'' from ⟨he, by rw [hm]; exact below_drewN' (Below.refl _ _) m⟩))
    have hxx : (xs == xs) = true := by simp
    rw [hxx] at HLK
    clear ho3 hr3 hc2 hf2 hc3 hf3 hxx
    go_wp2_with fail
    refine wp_region_qat [] 25 [] (by kernel_rfl) (by kernel_rfl) ?_
    intro hbc
    simp only [List.take_succ_cons, List.take_zero, List.drop_succ_cons, List.drop_zero]
    repeat (first
      | refine wpQ_pass rfl ?_
      | (refine wpQ_step rfl (fun K hK => ?_)
         go_simp
         first
           | (refine hK _ ?_; clear hK K)
           | (apply Exists.intro
              refine ⟨fun z => ?_, ?_⟩
              focus (first | (go_at_call 28; exact HLK.out _ (below_blur (Below.refl _ _) (Nat.le_refl _) _)) | (go_at_call 20; exact HFT.out _) | (go_at_call 19; exact HST.out _) | (go_at_call 29; exact HIF.out _) | (go_at_call 30; exact HIS.out _))
              refine hK _ ?_
              clear hK K)))
    refine wpQ_nil ⟨?_, ?_⟩
    · exact rfl
    intro  w6 hb6 hF6
    clear hbc
    obtain ⟨hc6, hf6⟩ := bcell hb6
    have hB6 : Below w.heap.size w w6 := below_then (by first | (go_grown; done) | (repeat (first | (with_reducible assumption) | (with_reducible exact Below.refl _ _) | (with_reducible refine below_drewN' ?_ _) | (with_reducible refine Below.drew ?_) | ((with_reducible refine Below.alloc ?_ ?_ _); rotate_left; focus (first | (simp; done) | (simp; omega) | omega)) | ((with_reducible refine Below.setCell ?_ ?_ _); rotate_left; focus (first | (simp; done) | (simp; omega) | omega))))) (by first | (simp; done) | (simp; omega) | omega) hb6
    have hz6a : w.heap.size < w6.heap.size := (by have := hb6.size; first | omega | (simp at this; omega))
    have hz6b : w1.heap.size < w6.heap.size := (by have := hb6.size; first | omega | (simp at this; omega))
    clear hF6
    try simp only [Act.put, List.setIfInBounds_toArray, List.set_cons_succ, List.set_cons_zero]
    clear h3 hc6 hf6 y0 y1 y2
    by_cases hC0 : C = 0
    · obtain ⟨D, k, P, V, rfl, rfl, rfl, rfl, hD0, hD, hk0, hDk, hp, hV, hc⟩ := HC0.out hC0
      obtain ⟨q1, q2⟩ := fw_yes hc (inR_nat hV)
      have hxl := HXS.out.symm.trans q2
      subst hxl
      have hg6 := Lib.hid (blk_below HG3.out hb6 (by omega))
      have HR6 := Lib.hid ((HR2'.out.below hb6).more hb6.size)
      have hLL : L = D + k := by rw [← HLx.out, bitsL_len]
      subst hLL
      subst hC0
      have h2D : (2 : Int) ^ D ≤ 256 ∧ (1 : Int) ≤ 2 ^ D := by
        have e1 : 2 ^ D ≤ 2 ^ 8 := Nat.pow_le_pow_right (by decide) hD
        have e2 := Nat.two_pow_pos D
        have e3 : ((2 ^ D : Nat) : Int) = (2 : Int) ^ D := by simp
        omega
      have HVlt := Lib.hid hV
      have HPo := Lib.hid hp
      have HC := Lib.hid hc
      clear q1 q2 hp hc hV
      go_wp2_with fail
      clear h1
      obtain ⟨y0, y1, y2, -⟩ := blk3 hg6.out
      have hsh : IntKind.i64.wrap (2 ^ min (IntKind.u64.wrap (D : Int)).toNat 64) = 2 ^ D := by
        rw [show IntKind.u64.wrap (D : Int) = (D : Int) by rw [IntKind.wrap_u64]; omega, show min ((D : Int)).toNat 64 = D by omega]
        rw [IntKind.wrap_i64]; omega
      go_region_held3 (fun w' => w'.cell? ⟨w1.heap.size, 0, none⟩ = some (.int .i64 (D : Int)))
        (first | (exact hx8) | (exact y0) | (exact (hc7 _ _ (by first | omega | (simp; omega))).trans y0) | go_keep)
        (first
          | ((go_at_call 31; go_call (roll_any A n c bs 801 _ w.heap.size (HR.out.below (by (repeat (first | (with_reducible assumption) | (with_reducible exact Below.refl _ _) | (with_reducible refine below_drewN' ?_ _) | (with_reducible refine Below.drew ?_) | ((with_reducible refine Below.alloc ?_ ?_ _); rotate_left; focus (first | (simp; done) | (simp; omega) | omega)) | ((with_reducible refine Below.setCell ?_ ?_ _); rotate_left; focus (first | (simp; done) | (simp; omega) | omega)))))) (by first | omega | (simp; omega)) (by omega) (by omega) (by omega)) as e7 w7 ⟨rfl, hdw, hb7⟩; obtain ⟨hc7, hf7⟩ := bcell hb7; have hB7 : Below w.heap.size w w7 := (below_then (by first | (go_grown; done) | (repeat (first | (with_reducible assumption) | (with_reducible exact Below.refl _ _) | (with_reducible refine below_drewN' ?_ _) | (with_reducible refine Below.drew ?_) | ((with_reducible refine Below.alloc ?_ ?_ _); rotate_left; focus (first | (simp; done) | (simp; omega) | omega)) | ((with_reducible refine Below.setCell ?_ ?_ _); rotate_left; focus (first | (simp; done) | (simp; omega) | omega))))) (by first | omega | (simp; done) | (simp; omega)) hb7); have hz7a : w.heap.size < w7.heap.size := (by have := hb7.size; first | omega | (simp at this; omega)); have hz7b : w1.heap.size < w7.heap.size := (by have := hb7.size; first | omega | (simp at this; omega))))
          | (go_at_call 32; with_reducible refine (dice_below_any w6.heap.size A n c bs (2 ^ D) _ w.heap.size (by simpa using hdw) (HR.out.below hB7) (by first | omega | (simp; omega)) (by omega) h2D.2 (by omega)).mono ?_; rintro e8 w8 ⟨V8, rfl, hv0, hv1, -, hg8⟩; have hx8 : w8.cell? ⟨w1.heap.size, 0, none⟩ = some (.int .i64 (D : Int)) := (World.cell?_of_block (hg8.block w1.heap.size (by have := hb7.size; simp at this; omega) (by simp; omega))).trans ((hc7 _ _ (by first | omega | (simp; omega))).trans (by simpa using y0))))
      have hs7 : w6.heap.size ≤ w7.heap.size := hb7.size
      have hB8 : Below w.heap.size w w8 := hB7.grown hg8 (by omega) (fun q hq => by have : w6.heap.size = q := by simpa using hq
                                                                                    omega)
      have hs8 := hg8.size
      have hg8b := Lib.hid ((hg8.block w1.heap.size (by omega) (by simp; omega)).trans (blk_below (w := w6.drew) hg6.out hb7 (by simp; omega)))
      obtain ⟨Vn, rfl⟩ := Int.eq_ofNat_of_zero_le hv0
      have hVn : Vn < 2 ^ D := by
        have e3 : ((2 ^ D : Nat) : Int) = (2 : Int) ^ D := by simp
        omega
      have HVn := Lib.hid hVn
      have hV8 : (Vn : Int) ≤ 256 := by omega
      have hV9 : V ≤ 256 := by have e1 : 2 ^ D ≤ 2 ^ 8 := Nat.pow_le_pow_right (by decide) hD
                               have := HVlt.out; omega
      have hxv : bits .xor .i64 (V : Int) (Vn : Int) = ((V ^^^ Vn : Nat) : Int) := i64_xor V Vn (by omega) (by omega)
      have hxlt : V ^^^ Vn < 2 ^ D := Nat.xor_lt_two_pow HVlt.out HVn.out
      obtain ⟨f1, f2⟩ := fd_yes HC.out
      obtain ⟨q1, q2⟩ := fw_yes HC.out (inR_nat HVn.out)
      obtain ⟨q3, q4⟩ := fw_yes HC.out (inR_nat hxlt)
      have HW1 := Lib.hid (fun w => FormatWord_any D ((D : Int) + k) P Vn w hL)
      have HW2 := Lib.hid (fun w => FormatWord_any D ((D : Int) + k) P ((V ^^^ Vn : Nat) : Int) w hL)
      have HFD := Lib.hid (fun w => FormatDistance_any D ((D : Int) + k) P w hL)
      rw [q1, q2] at HW1
      rw [q3, q4] at HW2
      rw [f1, f2] at HFD
      have hx256 : V ^^^ Vn ≤ 256 := by have e1 : 2 ^ D ≤ 2 ^ 8 := Nat.pow_le_pow_right (by decide) hD
                                        omega
      clear q1 q2 q3 q4 f1 f2 hVn hc7 hf7 y0 y1 y2 hdw hv0 hv1 hxlt HFW HSW HFT HST HIF HIS
      obtain ⟨y0, y1, y2, -⟩ := blk3 hg8b.out
      have HR8 := Lib.hid ((HR6.out.keep (fun p hp => by rw [hb7.cell hp]; simp)).grown hg8 (by have := hb6.size; omega) (fun q hq => Nat.le_of_eq (by simpa using hq)))
      have hp' : polyOk P (D + k - D) := by rw [show D + k - D = k by omega]; exact HPo.out
      have hz := Lib.hid ((zip_bits (D + k) (fword D (D + k) P V) (fword D (D + k) P Vn)).trans (by rw [← fword_xor hp' HVlt.out HVn.out]))
      have hap := Lib.hid (fun hne => words_apart (D := D) (L := D + k) hp' HVlt.out HVn.out hne)
      have HL0 := Lib.hid (fun v => bitsL_len (D + k) v)
      have Ha1 := Lib.hid (fun v => bits_all01 (D + k) v)
      generalize hM : minD D (D + k) P (2 ^ D) = M at hap HFD
      have hM24 : M ≤ 24 := by rw [← hM]; exact Nat.le_trans (minD_le _ _ _ _) hDk
      generalize fword D (D + k) P V = f1 at *
      generalize fword D (D + k) P Vn = f2 at *
      generalize fword D (D + k) P (V ^^^ Vn) = f3 at *
      clear hp' hM
      go_wp2_with fail
      (go_at_call 13; with_reducible refine (HW1.out _).mono ?_; rintro e9 w9 ⟨v9, rfl, ho9, hb9⟩; obtain ⟨hc9, hf9⟩ := bcell hb9; have hB9 : Below w.heap.size w w9 := (below_then (by first | (go_grown; done) | (repeat (first | (with_reducible assumption) | (with_reducible exact Below.refl _ _) | (with_reducible refine below_drewN' ?_ _) | (with_reducible refine Below.drew ?_) | ((with_reducible refine Below.alloc ?_ ?_ _); rotate_left; focus (first | (simp; done) | (simp; omega) | omega)) | ((with_reducible refine Below.setCell ?_ ?_ _); rotate_left; focus (first | (simp; done) | (simp; omega) | omega))))) (by first | omega | (simp; done) | (simp; omega)) hb9); have hz9a : w.heap.size < w9.heap.size := (by have := hb9.size; first | omega | (simp at this; omega)); have hz9b : w1.heap.size < w9.heap.size := (by have := hb9.size; first | omega | (simp at this; omega)))
      obtain ⟨A9, c9, rfl, hr9⟩ := ho9.shape
      rw [HL0.out] at hr9 ⊢
      have HR9 := Lib.hid hr9
      have HR89 := Lib.hid ((HR8.out.below (hb9.mono (by omega))))
      have hg9 := Lib.hid (blk_below hg8b.out hb9 (by omega))
      clear y0 y1 y2 ho9 hr9 hc9 hf9
      obtain ⟨y0, y1, y2, -⟩ := blk3 hg9.out
      go_wp2_with fail
      (go_at_call 13; with_reducible refine (HW2.out _).mono ?_; rintro e10 w10 ⟨v10, rfl, ho10, hb10⟩; obtain ⟨hc10, hf10⟩ := bcell hb10; have hB10 : Below w.heap.size w w10 := (below_then (by first | (go_grown; done) | (repeat (first | (with_reducible assumption) | (with_reducible exact Below.refl _ _) | (with_reducible refine below_drewN' ?_ _) | (with_reducible refine Below.drew ?_) | ((with_reducible refine Below.alloc ?_ ?_ _); rotate_left; focus (first | (simp; done) | (simp; omega) | omega)) | ((with_reducible refine Below.setCell ?_ ?_ _); rotate_left; focus (first | (simp; done) | (simp; omega) | omega))))) (by first | omega | (simp; done) | (simp; omega)) hb10); have hz10a : w.heap.size < w10.heap.size := (by have := hb10.size; first | omega | (simp at this; omega)); have hz10b : w1.heap.size < w10.heap.size := (by have := hb10.size; first | omega | (simp at this; omega)))
      obtain ⟨A10, c10, rfl, hr10⟩ := ho10.shape
      rw [HL0.out] at hr10 ⊢
      have HR10 := Lib.hid hr10
      have hs8b := hg8.size
      have hs9 := hb9.size
      have hs10 := hb10.size
      have HR810 := Lib.hid (HR89.out.below (hb10.mono (by have := hb6.size; omega)))
      have HR910 := Lib.hid (HR9.out.below hb10)
      have hg10 := Lib.hid (blk_below hg9.out hb10 (by omega))
      clear y0 y1 y2 ho10 hr10 hc10 hf10
      go_wp2_with fail
      (go_at_call 33; go_call (XorBits_ok A2 A9 (D + k) c2 c9 _ _ _ _ _ HR810.out HR910.out (by have := hb6.size; omega) (by omega) (by omega) (Ha1.out _) (Ha1.out _)) as e11 w11 ⟨v11, rfl, ho11, hb11⟩; obtain ⟨hc11, hf11⟩ := bcell hb11; have hB11 : Below w.heap.size w w11 := (below_then (by first | (go_grown; done) | (repeat (first | (with_reducible assumption) | (with_reducible exact Below.refl _ _) | (with_reducible refine below_drewN' ?_ _) | (with_reducible refine Below.drew ?_) | ((with_reducible refine Below.alloc ?_ ?_ _); rotate_left; focus (first | (simp; done) | (simp; omega) | omega)) | ((with_reducible refine Below.setCell ?_ ?_ _); rotate_left; focus (first | (simp; done) | (simp; omega) | omega))))) (by first | omega | (simp; done) | (simp; omega)) hb11); have hz11a : w1.heap.size < w11.heap.size := (by have := hb11.size; first | omega | (simp at this; omega)))
      rw [hz.out] at ho11
      obtain ⟨A11, c11, rfl, hr11⟩ := ho11.shape
      rw [HL0.out] at hr11 ⊢
      have HR11 := Lib.hid hr11
      have HR811 := Lib.hid (HR810.out.below (hb11.mono (by have := hb6.size; omega)))
      have HR911 := Lib.hid (HR910.out.below (hb11.mono (by omega)))
      have HR1011 := Lib.hid ((HR10.out.below hb11).more hb11.size)
      have hg11 := Lib.hid (blk_below hg10.out hb11 (by omega))
      clear ho11 hr11 hc11 hf11
      go_wp2_with fail
      go_at_call 34
      with_reducible refine (BitDistance_ok A2 A9 (D + k) c2 c9 _ _ _ _ _ HR811.out HR911.out (by omega) (Ha1.out _) (Ha1.out _)).mono ?_
      rintro e w' ⟨rfl, rfl⟩
      have hdl := differ_le (bitsL (D + k) f1) (bitsL (D + k) f2)
      rw [HL0.out] at hdl
      generalize differL (bitsL (D + k) f1) (bitsL (D + k) f2) = DD at hdl hap ⊢
      obtain ⟨y0, y1, y2, -⟩ := blk3 hg11.out
      go_wp2_with fail
      (go_at_call 18; with_reducible refine (HFD.out _).mono ?_; rintro e12 w12 ⟨rfl, hb12⟩; obtain ⟨hc12, hf12⟩ := bcell hb12; have hB12 : Below w.heap.size w w12 := (below_then (by first | (go_grown; done) | (repeat (first | (with_reducible assumption) | (with_reducible exact Below.refl _ _) | (with_reducible refine below_drewN' ?_ _) | (with_reducible refine Below.drew ?_) | ((with_reducible refine Below.alloc ?_ ?_ _); rotate_left; focus (first | (simp; done) | (simp; omega) | omega)) | ((with_reducible refine Below.setCell ?_ ?_ _); rotate_left; focus (first | (simp; done) | (simp; omega) | omega))))) (by first | omega | (simp; done) | (simp; omega)) hb12); have hz12a : w1.heap.size < w12.heap.size := (by have := hb12.size; first | omega | (simp at this; omega)))
      have HLK2 := Lib.hid (likeInts_any A11 A10 (D + k) (D + k) c11 c10 _ _ w12 w11.heap.size w11.heap.size (HR11.out.below hb12) (HR1011.out.below hb12) (by omega) (by omega))
      clear hc12 hf12 y0 y1 y2
      by_cases hvv : V = Vn
      · have hv1' : ((V : Int) == (Vn : Int)) = true := by simp [hvv]
        clear hap
        go_wp2_with (go_at_call 28; with_reducible refine HLK2.out.mono ?_; rintro e13 w13 ⟨rfl, m13, rfl⟩)
        go_ret
        exact ⟨rfl, below_drewN' (by (repeat (first | (with_reducible assumption) | (with_reducible exact Below.refl _ _) | (with_reducible refine below_drewN' ?_ _) | (with_reducible refine Below.drew ?_) | ((with_reducible refine Below.alloc ?_ ?_ _); rotate_left; focus (first | (simp; done) | (simp; omega) | omega)) | ((with_reducible refine Below.setCell ?_ ?_ _); rotate_left; focus (first | (simp; done) | (simp; omega) | omega))))) _⟩
      · have hv1' : ((V : Int) == (Vn : Int)) = false := by rw [beq_eq_false_iff_ne]; omega
        have hge := hap.out hvv
        have hge' : decide ((M : Int) ≤ (DD : Int)) = true := decide_eq_true (by omega)
        go_wp2_with (go_at_call 28; with_reducible refine HLK2.out.mono ?_; rintro e13 w13 ⟨rfl, m13, rfl⟩)
        go_ret
        exact ⟨rfl, below_drewN' (by (repeat (first | (with_reducible assumption) | (with_reducible exact Below.refl _ _) | (with_reducible refine below_drewN' ?_ _) | (with_reducible refine Below.drew ?_) | ((with_reducible refine Below.alloc ?_ ?_ _); rotate_left; focus (first | (simp; done) | (simp; omega) | omega)) | ((with_reducible refine Below.setCell ?_ ?_ _); rotate_left; focus (first | (simp; done) | (simp; omega) | omega))))) _⟩
    · have hC0' : (C != 0) = true := by simpa using hC0
      go_wp2_with fail
      go_ret
      exact ⟨rfl, by (repeat (first | (with_reducible assumption) | (with_reducible exact Below.refl _ _) | (with_reducible refine below_drewN' ?_ _) | (with_reducible refine Below.drew ?_) | ((with_reducible refine Below.alloc ?_ ?_ _); rotate_left; focus (first | (simp; done) | (simp; omega) | omega)) | ((with_reducible refine Below.setCell ?_ ?_ _); rotate_left; focus (first | (simp; done) | (simp; omega) | omega))))⟩
set_option maxRecDepth 100000 in
theorem lifted_FnFormatWords (os : Os) (started : os.Started) (H : Type) (enc : TypeId × Value → H) :
    ReturnsInHanded {} Try.checked os 8 .any (Rows.fnFormatWordsSpec.pre6 enc Try.prog Try.f8 Rows.fnFormatWordsRow.domain false) (Rows.fnFormatWordsSpec.post enc Try.prog Try.f8 false true false false) := by
  refine law_lifted (C := Try.checked) (tb := 4) own started (by kernel_rfl) Try.func8
    (ChangeSpec.witness6 (enc := enc) (C := Try.checked) false ⟨#[], #[.slice none 0 0], []⟩ 8 (by kernel_rfl) (by kernel_rfl) (by kernel_rfl) (by kernel_rfl))
    laidOut (by kernel_rfl) rfl rfl Try.underlying4 ?_ ?_
  · intro ds hd
    match ds, hd with
    | [e0], _ => rfl
  · intro W base args ds p hval hA hlt hsz
    have hval1 : ∀ (j : Nat) t v, Try.f8.params[j]? = some t → args[j]? = some v → Value.okWide Try.prog W .any base t v := hval
    have hA1 : DataW.TrodAll enc Try.prog W 0 (fun _ => true) true Try.f8.params.toList args.toList ds p := hA
    have hsz1 : (DataW.weightsEach Try.prog Try.f8.params.toList ds).all (· ≤ reachBytes) = true := hsz
    rw [Try.params8] at hval1 hA1 hsz1
    clear hval hA hsz
    obtain ⟨v0, d0, rfl, rfl, h0⟩ := trodAll_one hA1
    obtain ⟨A, n, c, bs, rfl, hr, _⟩ := arg_bytes Try.underlying42 Try.underlying5 (by kernel_rfl) (hval1 0 42 v0 rfl rfl) h0 (fun x hx => hlt x (by simp [hx]))
    exact lawFnFormatWords A n c bs W hr
theorem holds_FnFormatWords : Rows.FnFormatWordsSaid :=
  OpenClaim.holds_of_wide 8 Try.f8 rfl rfl rfl rfl rfl rfl rfl ⟨rfl, rfl, rfl, rfl, rfl⟩ rfl rfl rfl rfl rfl (by kernel_rfl) Try.func8 (by kernel_rfl)
    (of_decide_eq_true (by kernel_rfl)) (by unfold Func.isWrapper; first | (rw [if_pos (by decide +kernel)]; kernel_rfl) | (rw [if_neg (by decide +kernel)]; exact ⟨rfl, rfl⟩))
    (fun os started H enc _ => lifted_FnFormatWords os started H enc)

end Go.Proofs.Ytkdaodfhilhfgaa
