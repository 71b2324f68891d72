/-
  Contracts of chapters 2 and 4: elements, words of a code.
-/
import Derived.Test.YtbgcbjfimjfbpaaC04
import Derived.Test.YtbgcbjfimjfbpaaC05
namespace Go.Proofs.Ytbgcbjfimjfbpaa
set_option linter.unusedSimpArgs false
open Go.RowKit

theorem has_any (b S : Nat) (bin : Bool) (x : Int) (w : World) (hC : CalcAt w b S bin) (hS : 1 ≤ S) (hS2 : S ≤ 1021) :
    Calls Try.prog 116 #[.pointer (some ⟨b, 0, none⟩), .int .i64 x] w fun e w' => e = .returned (.bool (inR x 0 ((S : Int) - 1))) ∧ w = w' := by
  have hcc := hC.c1
  have hfa1 : ∀ w, (Instr.fieldAt 115 (.pointer (some ⟨b, 0, none⟩)) 1).run Try.prog w = .ok (.pointer (some ⟨b, 1, none⟩)) w := fun _ => by kernel_rfl
  clear hC
  go_enter Try.func116, Try.ntmps116
  go_wp2_with (go_at_call 60; refine (inRange_any _ _ _ _).mono ?_; rintro e w' ⟨rfl, rfl⟩)
  go_ret
  exact ⟨rfl, rfl⟩
set_option maxHeartbeats 1000000 in
theorem hasAll_any (b S : Nat) (bin : Bool) (A : Option Addr) (n cp : Nat) (xs : List Int) (w : World) (B : Nat) (hC : CalcAt w b S bin) (hS : 1 ≤ S) (hS2 : S ≤ 1021) (hr : RI w B A n xs) (hn : n ≤ 1000000000000000) :
    Calls Try.prog 107 #[.pointer (some ⟨b, 0, none⟩), .slice A n cp] w fun e w' => e = .returned (.bool (allIn 0 ((S : Int) - 1) xs)) ∧ w = w' := by
  have HH := Lib.hid (fun x => has_any b S bin x w hC hS hS2)
  have HL := Lib.hid hr.len
  have HR := Lib.hid hr
  clear hC hr
  go_enter Try.func107, Try.ntmps107
  go_wp2_with fail
  go_loop [9] (fun i => ∃ k : Nat, k ≤ n ∧ i = .int .i64 k ∧ Hid (allIn 0 ((S : Int) - 1) (xs.take k) = true)) (fun i => n - (intOf i).toNat)
  case atStart => exact ⟨0, Nat.zero_le _, rfl, Lib.hid rfl⟩
  case round =>
    obtain ⟨k, hk, rfl, hall⟩ := hrel
    by_cases hlt : k < n
    · obtain ⟨b', o, rfl, hb, hc⟩ := HR.out.cells (by omega)
      have hck := hc k hlt
      clear hc
      cases he : inR (nth xs k) 0 ((S : Int) - 1)
      · have he' := Lib.hid he
        go_wp2_with (go_at_call 116; refine (HH.out _).mono ?_; rintro e w' ⟨rfl, rfl⟩)
        go_ret
        exact ⟨ret_bool (by rw [allIn_false (by rw [HL.out]; exact hlt) he'.out]), rfl⟩
      · have he' := Lib.hid he
        go_wp2_with (go_at_call 116; refine (HH.out _).mono ?_; rintro e w' ⟨rfl, rfl⟩)
        go_round
        case rel => exact ⟨k + 1, by omega, by go_num, Lib.hid (by rw [allIn_take (by rw [HL.out]; exact hlt), hall.out, he'.out]; rfl)⟩
        case measure => simp [intOf]; omega
    · have hA : Hid (allIn 0 ((S : Int) - 1) xs = true) := Lib.hid (by have := hall.out; rwa [List.take_of_length_le (by rw [HL.out]; omega)] at this)
      go_wp2_with fail
      go_ret
      exact ⟨ret_bool (by rw [hA.out]), rfl⟩
set_option maxHeartbeats 2000000 in
theorem l02Is_any (p k g : Int) (A : Option Addr) (n cp : Nat) (xs : List Int) (w : World) (B : Nat) (h : fieldB p k g = true) (hr : RI w B A n xs) (hB : B ≤ w.heap.size) (hn : n ≤ 1000000000000000) :
    Calls Try.prog 106 #[.agg #[.int .i64 p, .int .i64 k, .int .i64 g], .slice A n cp] w fun e w' => e = .returned (.bool (allIn 0 (fsize p k - 1) xs)) ∧ Below w.heap.size w w' := by
  have HSZ := Lib.hid (fun w => l02Size_any p k g w h)
  obtain ⟨S, hS0, h3, h4⟩ := fieldB_size h
  rw [hS0] at HSZ ⊢
  have HL := Lib.hid hr.len
  have HR := Lib.hid (fun (w' : World) (hb : Below w.heap.size w w') => (hr.more hB).below hb)
  have hw1 : IntKind.i64.wrap ((S : Int) - 1) = (S : Int) - 1 := wr64 (by omega)
  clear h hS0 hr
  go_enter Try.func106, Try.ntmps106
  go_wp2_with fail
  go_loopw [5] (fun i wr => ∃ m : Nat, m ≤ n ∧ i = .int .i64 m ∧ Hid (allIn 0 ((S : Int) - 1) (xs.take m) = true) ∧ Hid (wr.heap[w.heap.size]? = some (.cells #[.int .i64 p, .int .i64 k, .int .i64 g] 28 (0, 0))) ∧ Hid (Below w.heap.size w wr)) (fun i _ => n - (intOf i).toNat)
  case atStart => exact ⟨0, Nat.zero_le _, rfl, Lib.hid rfl, Lib.hid (heap_alloc_new _ _), Lib.hid (by go_grown)⟩
  case round =>
    rename World => wo
    obtain ⟨m, hm, rfl, hall, hh, hbl⟩ := hrel
    obtain ⟨c0, c1, c2, -⟩ := blk3 hh.out
    have hz := lt_of_block hh.out
    have hbw := hbl.out
    by_cases hlt : m < n
    · obtain ⟨b', o, rfl, hb, hc⟩ := (HR.out _ hbl.out).cells (by omega)
      have hck := hc m hlt
      have hb2 : b' < wo.heap.size := by omega
      clear hc
      cases he : inR (nth xs m) 0 ((S : Int) - 1)
      · have he' := Lib.hid he
        go_wp2_with fail
        refine wp_region_qat [] 9 [] (by kernel_rfl) (by kernel_rfl) ?_
        intro hbc
        simp only [List.take_succ_cons, List.take_zero, List.drop_succ_cons, List.drop_zero]
        repeat (first
          | refine wpQ_pass rfl ?_
          | (refine wpQ_step rfl (fun K hK => ?_)
             go_simp
             first
               | (refine hK _ ?_; clear hK K)
               | (apply Exists.intro
                  refine ⟨fun z => ?_, ?_⟩
                  focus (first | (go_at_call 47; exact same_below4 (l01In_any _ _ _ _)) | (go_at_call 88; exact HSZ.out _))
                  refine hK _ ?_
                  clear hK K)))
        refine wpQ_nil ⟨?_, ?_⟩
        · exact rfl
        intro  w1 hb1 hF1
        clear hbc
        obtain ⟨hc1, hf1⟩ := bcell hb1
        have hB1 : Below w.heap.size w w1 := below_then (by first | (go_grown; done) | (repeat (first | (with_reducible assumption) | (with_reducible exact Below.refl _ _) | (with_reducible refine below_drewN' ?_ _) | (with_reducible refine Below.drew ?_) | ((with_reducible refine Below.alloc ?_ ?_ _); rotate_left; focus (first | (simp; done) | (simp; omega) | omega)) | ((with_reducible refine Below.setCell ?_ ?_ _); rotate_left; focus (first | (simp; done) | (simp; omega) | omega))))) (by first | (simp; done) | (simp; omega) | omega) hb1
        have hz1a : w.heap.size < w1.heap.size := (by have := hb1.size; first | omega | (simp at this; omega))
        clear hF1
        try simp only [Act.put, List.setIfInBounds_toArray, List.set_cons_succ, List.set_cons_zero]
        go_wp2_with fail
        go_ret
        exact ⟨ret_bool (by rw [allIn_false (by rw [HL.out]; exact hlt) he'.out]), by (repeat (first | (with_reducible assumption) | (with_reducible exact Below.refl _ _) | (with_reducible refine below_drewN' ?_ _) | (with_reducible refine Below.drew ?_) | ((with_reducible refine Below.alloc ?_ ?_ _); rotate_left; focus (first | (simp; done) | (simp; omega) | omega)) | ((with_reducible refine Below.setCell ?_ ?_ _); rotate_left; focus (first | (simp; done) | (simp; omega) | omega))))⟩
      · have he' := Lib.hid he
        go_wp2_with fail
        refine wp_region_qat [] 9 [] (by kernel_rfl) (by kernel_rfl) ?_
        intro hbc
        simp only [List.take_succ_cons, List.take_zero, List.drop_succ_cons, List.drop_zero]
        repeat (first
          | refine wpQ_pass rfl ?_
          | (refine wpQ_step rfl (fun K hK => ?_)
             go_simp
             first
               | (refine hK _ ?_; clear hK K)
               | (apply Exists.intro
                  refine ⟨fun z => ?_, ?_⟩
                  focus (first | (go_at_call 47; exact same_below4 (l01In_any _ _ _ _)) | (go_at_call 88; exact HSZ.out _))
                  refine hK _ ?_
                  clear hK K)))
        refine wpQ_nil ⟨?_, ?_⟩
        · exact rfl
        intro  w1 hb1 hF1
        clear hbc
        obtain ⟨hc1, hf1⟩ := bcell hb1
        have hB1 : Below w.heap.size w w1 := below_then (by first | (go_grown; done) | (repeat (first | (with_reducible assumption) | (with_reducible exact Below.refl _ _) | (with_reducible refine below_drewN' ?_ _) | (with_reducible refine Below.drew ?_) | ((with_reducible refine Below.alloc ?_ ?_ _); rotate_left; focus (first | (simp; done) | (simp; omega) | omega)) | ((with_reducible refine Below.setCell ?_ ?_ _); rotate_left; focus (first | (simp; done) | (simp; omega) | omega))))) (by first | (simp; done) | (simp; omega) | omega) hb1
        have hz1a : w.heap.size < w1.heap.size := (by have := hb1.size; first | omega | (simp at this; omega))
        clear hF1
        try simp only [Act.put, List.setIfInBounds_toArray, List.set_cons_succ, List.set_cons_zero]
        have hh1 := Lib.hid (blk_below hh.out hb1 hz)
        clear hc1 hf1 c0 c1 c2
        go_wp2_with fail
        go_roundw
        case rel => exact ⟨m + 1, by omega, by go_num, Lib.hid (by rw [allIn_take (by rw [HL.out]; exact hlt), hall.out, he'.out]; rfl), hh1, Lib.hid hB1⟩
        case measure => simp [intOf]; omega
    · have hA : Hid (allIn 0 ((S : Int) - 1) xs = true) := Lib.hid (by have := hall.out; rwa [List.take_of_length_le (by rw [HL.out]; omega)] at this)
      go_wp2_with fail
      go_ret
      exact ⟨ret_bool (by rw [hA.out]), by (repeat (first | (with_reducible assumption) | (with_reducible exact Below.refl _ _) | (with_reducible refine below_drewN' ?_ _) | (with_reducible refine Below.drew ?_) | ((with_reducible refine Below.alloc ?_ ?_ _); rotate_left; focus (first | (simp; done) | (simp; omega) | omega)) | ((with_reducible refine Below.setCell ?_ ?_ _); rotate_left; focus (first | (simp; done) | (simp; omega) | omega))))⟩
/-- Is a list a word? -/
def wordB (p k len : Int) (xs : List Int) : Bool := ((xs.length : Int) == len) && allIn 0 (fsize p k - 1) xs
end Go.Proofs.Ytbgcbjfimjfbpaa
