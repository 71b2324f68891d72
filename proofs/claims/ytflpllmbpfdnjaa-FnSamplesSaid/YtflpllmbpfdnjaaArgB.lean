/-
  Arguments that are codes (slices of bytes), opened; the laws' own words on lists.
-/
import Derived.Test.YtflpllmbpfdnjaaArgS
import Derived.Test.YtflpllmbpfdnjaaSrc
import Derived.Test.YtflpllmbpfdnjaaToS
namespace Go.Proofs.Ytflpllmbpfdnjaa
open Go.ChangeShapes Go.WideShapes Go.ChangeAt Go.RowKit

/-- A code that came in reads as its bytes; its cells lie in old memory. -/
theorem arg_bytes {H : Type} {enc : TypeId × Value → H} {P : Program} {W : World} {r : Reach} {base : Nat} {t e : TypeId} {v : Value} {d : DataW H} {p : List MemPlace}
    (ht : P.underlying t = some (.slice e)) (he : P.underlying e = some (.int .u8)) (hc : P.cellsOf e = 1) (hv : Value.okWide P W r base t v) (h : DataW.Trod enc P W 0 (fun _ => true) true t v d p) (hlt : ∀ x ∈ p, x.block < W.heap.size) :
    ∃ A n c xs, v = .slice A n c ∧ RB W W.heap.size A n xs ∧ n ≤ 9223372036854775807 := by
  obtain ⟨a0, n, c, rfl⟩ := okWide_slice ht hv
  obtain ⟨fuel, hf⟩ := h
  rcases open_ints ht he hc hf with ⟨hcs, hx⟩ | ⟨a, len', cap', zs, hcs, _, hl, hm, hz, hx, hcell, hwz⟩
  · simp [Value.cells] at hcs
    obtain ⟨rfl, rfl, rfl⟩ := hcs
    exact ⟨none, 0, 0, [], rfl, ⟨rfl, (fun x hx => by cases hx), fun h => absurd h (by omega)⟩, by omega⟩
  · simp [Value.cells] at hcs
    obtain ⟨rfl, rfl, rfl⟩ := hcs
    simp only [if_true] at hz
    simp only [Prod.mk.injEq] at hx
    obtain ⟨rfl, rfl⟩ := hx
    unfold maxLen at hm
    refine ⟨some a, n, c, zs.take n, rfl, ⟨by rw [List.length_take]; omega, fun x hx => ?_, fun hn => ?_⟩, by omega⟩
    · have hx2 := hwz x (List.mem_of_mem_take hx)
      have h1 : IntKind.u8.min = 0 := rfl
      have h2 : IntKind.u8.max = 255 := rfl
      simp only [Lit.wf, Bool.and_eq_true, decide_eq_true_eq] at hx2
      omega
    · have h0 := hcell 0 (by omega)
      have hadd : a.add 0 = a := by unfold Addr.add; simp
      rw [hadd] at h0
      have hs := spot_none h0
      refine ⟨a.block, a.off, by rw [← hs], ?_, fun k hk => ?_⟩
      · exact World.block_lt_of_cell? W a h0
      · have hk' := hcell k (by omega)
        have e1 : a.add k = ⟨a.block, a.off + k, none⟩ := by
          rw [hs]; unfold Addr.add; split
          · rename_i h; subst h; rfl
          · rfl
        rw [e1] at hk'
        rw [hk']
        unfold nth
        simp [hk]
theorem big_any (A : Option Addr) (n c : Nat) (w : World) : Calls Try.prog 27 #[.slice A n c] w fun e w' => e = .returned (.bool (decide (4096 < n))) ∧ Below w.heap.size w w' := by
  go_enter Try.func27, Try.ntmps27
  go_wp2_with fail
  go_ret
  exact ⟨ret_bool (by congr 1; apply propext; omega), by (repeat (first | (with_reducible assumption) | (with_reducible exact Below.refl _ _) | (with_reducible refine below_drewN' ?_ _) | (with_reducible refine Below.drew ?_) | ((with_reducible refine Below.alloc ?_ ?_ _); rotate_left; focus (first | (simp; done) | (simp; omega) | omega)) | ((with_reducible refine Below.setCell ?_ ?_ _); rotate_left; focus (first | (simp; done) | (simp; omega) | omega))))⟩
set_option maxHeartbeats 1000000 in
theorem likeInts_any (A1 A2 : Option Addr) (n1 n2 c1 c2 : Nat) (xs ys : List Int) (w : World) (B1 B2 : Nat) (hr1 : RI w B1 A1 n1 xs) (hr2 : RI w B2 A2 n2 ys) (hn : n1 ≤ 1000000000000) (hn2 : n2 ≤ 1000000000000) :
    Calls Try.prog 75 #[.slice A1 n1 c1, .slice A2 n2 c2] w fun e w' => e = .returned (.bool (xs == ys)) ∧ ∃ m, w' = w.drewN m := by
  have hl1 := Lib.hid hr1.len
  have hl2 := Lib.hid hr2.len
  by_cases hl : n1 = n2
  · subst hl
    have HE : Hid (xs.length = ys.length) := Lib.hid (hl1.out.trans hl2.out.symm)
    have H1 := Lib.hid hr1
    have H2 := Lib.hid hr2
    clear hr1 hr2
    go_enter Try.func75, Try.ntmps75
    go_wp2_with fail
    go_loopw [5] (fun i wr => ∃ k : Nat, k ≤ n1 ∧ i = .int .i64 k ∧ Hid (xs.take k = ys.take k) ∧ Hid (∃ m, wr = w.drewN m)) (fun i _ => n1 - (intOf i).toNat)
    case atStart => exact ⟨0, Nat.zero_le _, rfl, rfl, ⟨0, rfl⟩⟩
    case round =>
      obtain ⟨k, hk, rfl, heq, hw⟩ := hrel
      by_cases hlt : k < n1
      · obtain ⟨b, o, rfl, hb, hc⟩ := H1.out.cells (by omega)
        obtain ⟨b', o', rfl, hb', hc'⟩ := H2.out.cells (by omega)
        have hck : wr.cell? ⟨b, o + k, none⟩ = some (.int .i64 (nth xs k)) := by
          obtain ⟨m, rfl⟩ := hw.out
          exact hc k hlt
        have hck' : wr.cell? ⟨b', o' + k, none⟩ = some (.int .i64 (nth ys k)) := by
          obtain ⟨m, rfl⟩ := hw.out
          exact hc' k hlt
        clear hc hc' hb hb'
        by_cases he : nth xs k = nth ys k
        · have hne : (nth xs k != nth ys k) = false := by simpa using he
          have HN := Lib.hid he
          clear he
          go_wp2_with fail
          go_quiet (fail)
          go_wp2_with fail
          go_roundw
          case rel => exact ⟨k + 1, by omega, by go_num, by
            rw [take_nth (by have := hl1.out; omega), take_nth (by have := hl2.out; omega), heq.out, HN.out]; exact rfl, by obtain ⟨m, hm⟩ := hw.out; exact ⟨m + nq, by rw [hm]; exact drewN_two w m nq⟩⟩
          case measure => simp [intOf]; omega
        · have hne : (nth xs k != nth ys k) = true := by simpa using he
          have HN := Lib.hid he
          clear he
          go_wp2_with fail
          go_quiet (fail)
          go_wp2_with fail
          go_ret
          exact ⟨ret_bool (by rw [beq_ints_ne HE.out HN.out]), by obtain ⟨m, hm⟩ := hw.out; exact ⟨m + nq, by rw [hm]; exact drewN_two w m nq⟩⟩
      · have hkn : k = n1 := by omega
        have hfin : xs = ys := by
          have := heq.out
          rwa [hkn, List.take_of_length_le (by have := hl1.out; omega), List.take_of_length_le (by have := hl2.out; omega)] at this
        have HF := Lib.hid hfin
        clear hfin hkn
        go_wp2_with fail
        go_ret
        exact ⟨ret_bool (by rw [HF.out]; simp), hw.out⟩
  · have he : (xs == ys) = false := beq_ints_len (by rw [hl1.out, hl2.out]; exact hl)
    rw [he]
    clear he hr1 hr2
    have hl' : ((n1 : Int) == (n2 : Int)) = false := by simp; omega
    have hl'' : ((n1 : Int) != (n2 : Int)) = true := by simp; omega
    go_enter Try.func75, Try.ntmps75
    go_wp2_with fail
    go_ret
    exact ⟨rfl, 0, rfl⟩
end Go.Proofs.Ytflpllmbpfdnjaa
