/-
  Numbers in decimal: the program's list of numerals, the reference's numeral.
-/
import Derived.Test.YtnhhbpdjapccpaaDoorShelf
import Derived.Test.YtnhhbpdjapccpaaDoorRows
import Derived.Test.YtnhhbpdjapccpaaDoorC25
import Derived.Test.YtnhhbpdjapccpaaDoorRegion
import Derived.Lib.ItoaLen
import Derived.Lib.AppendIntMem
import Derived.OwnWalk
import Derived.Laws.IdiomStrings
import Derived.Deep.RegionWith
namespace Go.Proofs.YtnhhbpdjapccpaaDoor
set_option linter.unusedSimpArgs false
open Go.RowKit Go.Shelf

/-- A text of bytes. -/
def bstr (l : List UInt8) : ByteArray := ⟨l.toArray⟩
theorem bstr_append (a b : List UInt8) : bstr a ++ bstr b = bstr (a ++ b) := by
  unfold bstr
  apply ByteArray.ext
  simp [ByteArray.data_append]
theorem bstr_size (l : List UInt8) : (bstr l).size = l.length := by unfold bstr; simp [ByteArray.size]
theorem decDigits_le {u : Nat} (h : u ≤ 9223372036854775807) : (Lib.decDigits u).length ≤ 20 := by
  rw [Lib.decDigits_length]; exact Lib.nDigits_le20 u (by omega)
theorem no_sum {a b : ByteArray} (h : a.size ≤ 1000000) (h2 : b.size ≤ 1000000) : ¬ 9223372036854775807 < a.size + b.size := by omega
/-- The numerals of the first k numbers, a blank between two. -/
def decF (xs : List Int) : Nat → List UInt8
  | 0 => []
  | k + 1 => decF xs k ++ (if k = 0 then [] else [32]) ++ Lib.itoa (nth xs k)
theorem itoa_neg' {u : Nat} (h : 0 < u) : Lib.itoa (-(u : Int)) = 45 :: Lib.decDigits u := Lib.itoa_neg u h
theorem conv_at (b : UInt8) (v : Int) (hv : v = (b.toNat : Int)) (g : Nat) (w : World) (hc : w.cell? ⟨g, 0, none⟩ = some (.int .u8 v)) :
    (convert 28 9 (.slice (some ⟨g, 0, none⟩) 1 1)).run Tryd.prog w = .ok (.string (bstr [b])) w :=
  run_convert_bytes_back (P := Tryd.prog) w 28 9 5 ⟨g, 0, none⟩ 1 [b] Tryd.underlying28 Tryd.underlying5 Tryd.underlying9 (by
    intro j hj
    obtain rfl : j = 0 := by simpa using hj
    have e : (⟨g, 0, none⟩ : Addr).add 0 = ⟨g, 0, none⟩ := by simp [Addr.add]
    rw [e, hc, hv]; rfl)
theorem conv_new (b : UInt8) (v : Int) (hv : v = (b.toNat : Int)) (w : World) :
    (convert 28 9 (.slice (some ⟨w.heap.size, 0, none⟩) 1 1)).run Tryd.prog (w.alloc (.cells #[.int .u8 v] 5)) = .ok (.string (bstr [b])) (w.alloc (.cells #[.int .u8 v] 5)) :=
  conv_at b v hv _ _ (by simp)
theorem conv_newD (b : UInt8) (v : Int) (hv : v = (b.toNat : Int)) (w : World) :
    (convert 28 9 (.slice (some ⟨w.heap.size, 0, none⟩) 1 1)).run Tryd.prog (w.alloc (.cells #[.int .u8 v] 5)).drew = .ok (.string (bstr [b])) (w.alloc (.cells #[.int .u8 v] 5)).drew :=
  conv_at b v hv _ _ (by simp)
theorem digit_val {d : Nat} (h : d < 10) : (48 : Int) + d = ((UInt8.ofNat (48 + d)).toNat : Int) := by
  rw [UInt8.toNat_ofNat', Nat.mod_eq_of_lt (by omega)]; omega
set_option maxHeartbeats 4000000 in
theorem l01Dec_any (u : Nat) (hu : u ≤ 9223372036854775807) (w : World) :
    Calls Tryd.prog 35 #[.int .i64 u] w fun e w' => e = .returned (.string (bstr (Lib.decDigits u))) ∧ Below w.heap.size w w' := by
  induction u using Nat.strongRecOn generalizing w with
  | ind u ih =>
    by_cases h : u < 10
    · have h' : (u : Int) < 10 := by omega
      rw [Lib.decDigits, dif_pos h]
      obtain ⟨b, hb⟩ : ∃ b : UInt8, UInt8.ofNat (48 + u) = b := ⟨_, rfl⟩
      have hcv := conv_new b _ (hb ▸ digit_val h) w
      rw [hb]
      clear hb
      go_enter Tryd.func35, Tryd.ntmps35
      go_wp2_with fail
      go_ret
      exact ⟨rfl, by (repeat (first | (with_reducible assumption) | (with_reducible exact Below.refl _ _) | (with_reducible refine below_drewN' ?_ _) | (with_reducible refine Below.drew ?_) | ((with_reducible refine Below.alloc ?_ ?_ _); rotate_left; focus (first | (simp; done) | (simp; omega) | omega)) | ((with_reducible refine Below.setCell ?_ ?_ _); rotate_left; focus (first | (simp; done) | (simp; omega) | omega))))⟩
    · have h' : ¬ (u : Int) < 10 := by omega
      have h0 : ¬ (10 : Int) = 0 := by decide
      rw [Lib.decDigits, dif_neg h, ← bstr_append]
      have hq1 : (u : Int).tdiv 10 = ((u / 10 : Nat) : Int) := by rw [Int.tdiv_eq_ediv_of_nonneg (by omega)]; simp
      have hr1 : (u : Int).tmod 10 = ((u % 10 : Nat) : Int) := by rw [Int.tmod_eq_emod_of_nonneg (by omega)]; simp
      have HI := Lib.hid (fun w => ih (u / 10) (by omega) (by omega) w)
      have hq2 : u / 10 ≤ 9223372036854775807 := by omega
      have hr2 : u % 10 < 10 := by omega
      have hq3 : (u : Int) / 10 = ((u / 10 : Nat) : Int) := by simp
      have hr3 : (u : Int) % 10 = ((u % 10 : Nat) : Int) := by simp
      clear ih
      generalize u / 10 = q at *
      generalize u % 10 = d at *
      have hns : ∀ c : UInt8, ¬ 9223372036854775807 < (bstr (Lib.decDigits q)).size + (bstr [c]).size := fun c => no_sum (by rw [bstr_size]; have := decDigits_le hq2; omega) (by rw [bstr_size]; simp)
      have hw : IntKind.i64.wrap (q : Int) = q := by rw [IntKind.wrap_i64]; omega
      have hw2 : IntKind.i64.wrap (48 + (d : Int)) = 48 + d := by rw [IntKind.wrap_i64]; omega
      have hw3 : IntKind.u8.wrap (48 + (d : Int)) = 48 + d := by rw [IntKind.wrap_u8]; omega
      obtain ⟨b, hb⟩ : ∃ b : UInt8, UInt8.ofNat (48 + d) = b := ⟨_, rfl⟩
      have hca := fun g W => conv_at b (48 + (d : Int)) (hb ▸ digit_val hr2) g W
      rw [hb]
      clear hb
      go_enter Tryd.func35, Tryd.ntmps35
      go_wp2_with fail
      go_region_with (go_at_call 35; with_reducible refine (HI.out _).mono ?_; rintro e1 w1 ⟨rfl, hb1⟩; obtain ⟨hc1, hf1⟩ := bcell hb1; have hB1 : Below w.heap.size w w1 := below_then (by (repeat (first | (with_reducible assumption) | (with_reducible exact Below.refl _ _) | (with_reducible refine below_drewN' ?_ _) | (with_reducible refine Below.drew ?_) | ((with_reducible refine Below.alloc ?_ ?_ _); rotate_left; focus (first | (simp; done) | (simp; omega) | omega)) | ((with_reducible refine Below.setCell ?_ ?_ _); rotate_left; focus (first | (simp; done) | (simp; omega) | omega))))) (by first | (simp; done) | (simp; omega) | omega) hb1; have hz1 := hB1.size)
      all_goals (go_wp2_with fail; go_ret; exact ⟨rfl, by (repeat (first | (with_reducible assumption) | (with_reducible exact Below.refl _ _) | (with_reducible refine below_drewN' ?_ _) | (with_reducible refine Below.drew ?_) | ((with_reducible refine Below.alloc ?_ ?_ _); rotate_left; focus (first | (simp; done) | (simp; omega) | omega)) | ((with_reducible refine Below.setCell ?_ ?_ _); rotate_left; focus (first | (simp; done) | (simp; omega) | omega))))⟩)
set_option maxHeartbeats 2000000 in
theorem l25Signed_any (n : Int) (h0 : -9223372036854775807 ≤ n) (h1 : n ≤ 9223372036854775807) (w : World) :
    Calls Tryd.prog 18 #[.int .i64 n] w fun e w' => e = .returned (.string (bstr (Lib.itoa n))) ∧ Below w.heap.size w w' := by
  by_cases hn : n < 0
  · obtain ⟨u, rfl⟩ : ∃ u : Nat, n = -(u : Int) := ⟨n.natAbs, by omega⟩
    have HI := Lib.hid (fun w => l01Dec_any u (by omega) w)
    rw [itoa_neg' (by omega), show (45 : UInt8) :: Lib.decDigits u = [45] ++ Lib.decDigits u from rfl, ← bstr_append]
    have hns : ¬ 9223372036854775807 < (⟨#[45]⟩ : ByteArray).size + (bstr (Lib.decDigits u)).size := no_sum (by decide) (by rw [bstr_size]; have := decDigits_le (u := u) (by omega); omega)
    have hnn : - -(u : Int) = u := by omega
    go_enter Tryd.func18, Tryd.ntmps18
    go_wp2_with (go_at_call 35; with_reducible refine (HI.out _).mono ?_; rintro e1 w1 ⟨rfl, hb1⟩; obtain ⟨hc1, hf1⟩ := bcell hb1; have hB1 : Below w.heap.size w w1 := (below_then (by first | (go_grown; done) | (repeat (first | (with_reducible assumption) | (with_reducible exact Below.refl _ _) | (with_reducible refine below_drewN' ?_ _) | (with_reducible refine Below.drew ?_) | ((with_reducible refine Below.alloc ?_ ?_ _); rotate_left; focus (first | (simp; done) | (simp; omega) | omega)) | ((with_reducible refine Below.setCell ?_ ?_ _); rotate_left; focus (first | (simp; done) | (simp; omega) | omega))))) (by first | omega | (simp; done) | (simp; omega)) hb1))
    go_ret
    exact ⟨rfl, by (repeat (first | (with_reducible assumption) | (with_reducible exact Below.refl _ _) | (with_reducible refine below_drewN' ?_ _) | (with_reducible refine Below.drew ?_) | ((with_reducible refine Below.alloc ?_ ?_ _); rotate_left; focus (first | (simp; done) | (simp; omega) | omega)) | ((with_reducible refine Below.setCell ?_ ?_ _); rotate_left; focus (first | (simp; done) | (simp; omega) | omega))))⟩
  · obtain ⟨u, rfl⟩ := Int.eq_ofNat_of_zero_le (show 0 ≤ n by omega)
    have HI := Lib.hid (fun w => l01Dec_any u (by omega) w)
    rw [Lib.itoa_nonneg]
    go_enter Tryd.func18, Tryd.ntmps18
    go_wp2_with (go_at_call 35; with_reducible refine (HI.out _).mono ?_; rintro e1 w1 ⟨rfl, hb1⟩; obtain ⟨hc1, hf1⟩ := bcell hb1; have hB1 : Below w.heap.size w w1 := (below_then (by first | (go_grown; done) | (repeat (first | (with_reducible assumption) | (with_reducible exact Below.refl _ _) | (with_reducible refine below_drewN' ?_ _) | (with_reducible refine Below.drew ?_) | ((with_reducible refine Below.alloc ?_ ?_ _); rotate_left; focus (first | (simp; done) | (simp; omega) | omega)) | ((with_reducible refine Below.setCell ?_ ?_ _); rotate_left; focus (first | (simp; done) | (simp; omega) | omega))))) (by first | omega | (simp; done) | (simp; omega)) hb1))
    go_ret
    exact ⟨rfl, by (repeat (first | (with_reducible assumption) | (with_reducible exact Below.refl _ _) | (with_reducible refine below_drewN' ?_ _) | (with_reducible refine Below.drew ?_) | ((with_reducible refine Below.alloc ?_ ?_ _); rotate_left; focus (first | (simp; done) | (simp; omega) | omega)) | ((with_reducible refine Below.setCell ?_ ?_ _); rotate_left; focus (first | (simp; done) | (simp; omega) | omega))))⟩
/-- The table of the powers of ten, as the library's own text lays it. -/
def tabN : String := (Rows.fnExactMapTextRow.named).headD ""
def TabOk (w : World) : Prop := Lib.TabIs Tryd.prog w tabN .u64 Lib.pow10Tab
theorem decF_le {xs : List Int} (hx : ∀ x ∈ xs, -9223372036854775808 ≤ x ∧ x ≤ 9223372036854775807) : ∀ {k : Nat}, k ≤ xs.length → (decF xs k).length ≤ 22 * k
  | 0, _ => by simp [decF]
  | k + 1, h => by
    have h1 := decF_le hx (k := k) (by omega)
    have h2 := hx (nth xs k) (nth_mem (by omega))
    have h3 := Lib.itoa_length_le _ h2.1 h2.2
    unfold decF
    rw [List.length_append, List.length_append]
    split <;> simp <;> omega
theorem itoa_pos (n : Int) : 0 < (Lib.itoa n).length := by
  unfold Lib.itoa
  split
  · simp
  · rw [Lib.decDigits]; split <;> simp
theorem decF_pos {xs : List Int} : ∀ {k : Nat}, 1 ≤ k → 0 < (decF xs k).length
  | k + 1, _ => by
    unfold decF
    rw [List.length_append]
    have := itoa_pos (nth xs k)
    omega
theorem info_u8d : (Tryd.prog.info? 5).map (fun i => (i.zero, i.size, i.bytes)) = some (some (.int .u8 0), 1, 1) := by kernel_rfl
theorem byteCells_one (b : UInt8) : Lib.byteCells [b] = [.int .u8 (b.toNat : Int)] := rfl
def OwnT (w : World) (B : Nat) (v : Value) (l : List UInt8) : Prop := w.ownsRow B 5 1 v l.length (Lib.byteCells l)
theorem AppendInt_any (B : Nat) (i : Int) (h0 : -9223372036854775808 ≤ i) (h1 : i ≤ 9223372036854775807) (v : Value) (l : List UInt8) (w : World) (hown : OwnT w B v l) (hB : B ≤ w.heap.size) (hl : l.length ≤ 1000000) (htab : Lib.TabBelow Tryd.prog B w tabN .u64 Lib.pow10Tab) :
    Calls Tryd.prog 36 #[v, .int .i64 i, .int .i64 10] w fun e w' => ∃ v', e = .returned v' ∧ OwnT w' B v' (l ++ Lib.itoa i) ∧ Below B w w' := by
  refine (Any.strconv_AppendInt_10 Tryd.laysAI B l.length i h0 h1 v (Lib.byteCells l) w hown hB (by omega) htab).mono ?_
  rintro e w' ⟨v', he, ho, hb, -⟩
  refine ⟨v', he, ?_, hb⟩
  unfold OwnT
  rw [List.length_append, Lib.byteCells_append]
  exact ho
set_option maxHeartbeats 4000000 in
theorem decimals_any (A : Option Addr) (n c : Nat) (xs : List Int) (w : World) (B0 : Nat) (hr : RI w B0 A n xs) (hB : B0 ≤ w.heap.size) (hn0 : 1 ≤ n) (hn : n ≤ 1000) (hx : ∀ x ∈ xs, -9223372036854775808 ≤ x ∧ x ≤ 9223372036854775807) (htab : TabOk w) :
    Calls Tryd.prog 20 #[.slice A n c] w fun e w' => e = .returned (.string (bstr (decF xs n))) ∧ Below w.heap.size w w' := by
  obtain ⟨i0, hi, hz0, hz1, hz2⟩ := info_parts info_u8d
  have HI := Lib.hid (And.intro hi (And.intro hz0 (And.intro hz1 hz2)))
  have HT := Lib.hid (Lib.tabBelow_of_tabIs htab)
  have HL := Lib.hid hr.len
  have HX := Lib.hid hx
  have HR := Lib.hid hr
  clear hi hz0 hz1 hz2 htab hr hx
  have HO : Hid (OwnT (w.alloc (.cells #[] 5)) w.heap.size (.slice (some ⟨w.heap.size, 0, none⟩) 0 0) []) := Lib.hid (by
    have := World.ownsRow_made (e := 5) (size := 1) (base := w.heap.size) w #[] 0 (Nat.le_refl _) (by unfold maxLen; omega) rfl
    exact this)
  go_enter Tryd.func20, Tryd.ntmps20
  go_wp2_with fail
  go_loopw [3, 4, 5, 9] (fun out _ _ i wr => ∃ k : Nat, k ≤ n ∧ i = .int .i64 k ∧ Hid (OwnT wr w.heap.size out (decF xs k)) ∧ Hid (Below w.heap.size w wr)) (fun _ _ _ i _ => n - (intOf i).toNat)
  case atStart => exact ⟨0, Nat.zero_le _, rfl, HO, Lib.hid ((Below.refl _ _).alloc (Nat.le_refl _) _)⟩
  case round =>
    obtain ⟨k, hk, rfl, hown, hbel⟩ := hrel
    by_cases hlt : k < n
    · obtain ⟨b, o, rfl, hb, hc⟩ := (HR.out.below (hbel.out.mono hB)).cells (by omega)
      have hck := hc k hlt
      clear hc
      have hrg := HX.out (nth xs k) (nth_mem (by rw [HL.out]; exact hlt))
      have hle := decF_le HX.out (k := k) (by rw [HL.out]; exact hk)
      have hsz := hbel.out.size
      obtain ⟨x, hxx⟩ : ∃ x, nth xs k = x := ⟨_, rfl⟩
      have HS : Hid (decF xs (k + 1) = decF xs k ++ (if k = 0 then [] else [32]) ++ Lib.itoa x) := Lib.hid (by rw [decF, hxx])
      rw [hxx] at hck hrg
      clear hxx
      have hki : (k : Int) < n := by omega
      obtain ⟨hrg1, hrg2⟩ := hrg
      have hbw := hbel.out
      by_cases h0 : k = 0
      · have HS0 : Hid (decF xs (k + 1) = decF xs k ++ Lib.itoa x) := Lib.hid (by rw [HS.out, if_pos h0, List.append_nil])
        have hkz : ¬ (0 : Int) < k := by omega
        clear h0 HS
        go_wp2_with fail
        go_at_call 36
        with_reducible refine (AppendInt_any w.heap.size x hrg1 hrg2 _ (decF xs k) wr hown.out hsz (by omega) (HT.out.on hbw)).mono ?_
        rintro e1 w1 ⟨v1, rfl, ho1, hb1⟩
        have HO1 : Hid (OwnT w1 w.heap.size v1 (decF xs (k + 1))) := Lib.hid (by rw [HS0.out]; exact ho1)
        clear ho1
        go_wp2_with fail
        go_roundw
        case rel => exact ⟨k + 1, by omega, by go_num, HO1, Lib.hid (hbw.trans hb1)⟩
        case measure => simp [intOf]; omega
      · have HS0 : Hid (decF xs (k + 1) = (decF xs k ++ [32]) ++ Lib.itoa x) := Lib.hid (by rw [HS.out, if_neg h0])
        have hkz : (0 : Int) < k := by omega
        clear h0 HS
        go_upto_region 7 with (at_builtin; refine wpList_append_own _ rfl _ _ 28 rfl (w.heap.size) 5 i0 (.int .u8 0) 1 1 Tryd.underlying28 HI.out.1 HI.out.2.1 HI.out.2.2.1 HI.out.2.2.2 rfl (by decide) _ _ _ rfl (World.ownsRow.alloc hown.out _) ⟨wr.heap.size, 0, none⟩ 1 1 [.int .u8 32] rfl rfl (cell_one_new _ _ _) (by intro u' hu'; simp at hu'; subst hu'; rfl) (by unfold maxLen; omega) (by omega) (by rw [World.size_alloc]; omega) ?_; intro v2 w2 hown2 hgrow2 _; have HO2 := Lib.hid hown2; have HG2 := Lib.hid hgrow2; clear hown2 hgrow2)
        have HO3 : Hid (OwnT w2 w.heap.size v2 (decF xs k ++ [32])) := Lib.hid (by
          have h := HO2.out
          unfold OwnT
          rw [List.length_append, Lib.byteCells_append]
          exact h)
        have hB2 : Below w.heap.size w w2 := (hbw.alloc hsz _).grown HG2.out (by rw [World.size_alloc]; omega) (fun q hq => (World.ownsRow.lt hown.out q hq).1)
        have hs2 := hB2.size
        clear HO2 HG2
        go_wp2_with fail
        go_at_call 36
        with_reducible refine (AppendInt_any w.heap.size x hrg1 hrg2 _ (decF xs k ++ [32]) w2 HO3.out hs2 (by rw [List.length_append]; simp; omega) (HT.out.on hB2)).mono ?_
        rintro e1 w1 ⟨v1, rfl, ho1, hb1⟩
        have HO1 : Hid (OwnT w1 w.heap.size v1 (decF xs (k + 1))) := Lib.hid (by rw [HS0.out]; exact ho1)
        clear ho1
        go_wp2_with fail
        go_roundw
        case rel => exact ⟨k + 1, by omega, by go_num, HO1, Lib.hid (hB2.trans hb1)⟩
        case measure => simp [intOf]; omega
    · obtain rfl : k = n := by omega
      have hki : ¬ (k : Int) < k := by omega
      have hpos : 0 < (decF xs k).length := decF_pos hn0
      rcases hown.out.2 with ⟨-, h0⟩ | ⟨g, cap, cur, rfl, -, -, -, -, -, -⟩
      · omega
      · have hcv := run_convert_bytes_back (P := Tryd.prog) wr 28 9 5 ⟨g, 0, none⟩ cap (decF xs k) Tryd.underlying28 Tryd.underlying5 Tryd.underlying9 (fun j hj => hown.out.cells (g := g) rfl j _ (by simp [Lib.byteCells, hj]))
        go_wp2_with fail
        go_ret
        exact ⟨rfl, hbel.out⟩
end Go.Proofs.YtnhhbpdjapccpaaDoor
