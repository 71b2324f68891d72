/-
  Contracts of chapter 1: bit lists, their texts.
-/
import Derived.Test.YtkdaodfhilhfgaaC01
import Derived.Test.YtkdaodfhilhfgaaC01A
import Derived.Laws.BytesArg
namespace Go.Proofs.Ytkdaodfhilhfgaa
open Go.RowKit

/-- The slice value v owns the bytes xs. -/
def OwnB (w : World) (B : Nat) (v : Value) (xs : List Int) : Prop := w.ownsRow B 5 1 v xs.length (xs.map (Value.int .u8))
section
variable {w w' : World} {B : Nat} {v : Value} {xs : List Int} {o : Obj} {x : Int}
theorem OwnB.alloc (h : OwnB w B v xs) (o : Obj) : (w.alloc o).ownsRow B 5 1 v xs.length (xs.map (Value.int .u8)) := World.ownsRow.alloc h o
theorem OwnB.snoc (h : w.ownsRow B 5 1 v (xs.length + 1) (xs.map (Value.int .u8) ++ [.int .u8 x])) : OwnB w B v (xs ++ [x]) := by
  unfold OwnB; simpa using h
theorem one_okB (x : Int) : ∀ u ∈ [Value.int .u8 x], u.oneCell' = true := by
  intro u hu; simp at hu; subst hu; rfl
theorem nth_mapB (xs : List Int) (k : Nat) (h : k < xs.length) : (xs.map (Value.int .u8))[k]? = some (.int .u8 (nth xs k)) := by
  rw [List.getElem?_map, List.getElem?_eq_getElem h, nth_lt h]; rfl
theorem OwnB.row (h : OwnB w B v xs) (h0 : 0 < xs.length) : ∃ g c, v = .slice (some ⟨g, 0, none⟩) xs.length c ∧ B ≤ g ∧ g < w.heap.size ∧
    (∀ k, k < xs.length → w.cell? ⟨g, k, none⟩ = some (.int .u8 (nth xs k))) ∧ (∀ k, w.frozen? ⟨g, k, none⟩ = false) := by
  rcases h.2 with ⟨rfl, h0'⟩ | ⟨g, cap, cur, rfl, hB, hg, hr⟩
  · omega
  · have hf : w.ownsRow B 5 1 (.slice (some ⟨g, 0, none⟩) xs.length cap) xs.length (xs.map (Value.int .u8)) := h
    refine ⟨g, cap, rfl, hB, lt_of_block hg, fun k hk => ?_, fun k => hf.frozenAt k⟩
    rw [hf.cellAt k (by omega)]
    exact nth_mapB xs k hk
theorem OwnB.setn {g c k n : Nat} {u : Int} (hl : xs.length = n) (h : OwnB w B (.slice (some ⟨g, 0, none⟩) n c) xs) :
    OwnB (w.setCell ⟨g, k, none⟩ (.int .u8 u)) B (.slice (some ⟨g, 0, none⟩) n c) (xs.set k u) := by
  subst hl
  have h1 := (World.ownsRow.stored (show w.ownsRow B 5 1 (.slice (some ⟨g, 0, none⟩) xs.length c) xs.length (xs.map (Value.int .u8)) from h) k (.int .u8 u)).1
  unfold OwnB
  rw [List.length_set, List.map_set]
  exact h1
end
theorem info_u8s : (Try.prog.info? 5).map (fun i => (i.zero, i.size, i.bytes)) = some (some (.int .u8 0), 1, 1) := by kernel_rfl
/-- The text of bits. -/
def txt (xs : List Int) : List Int := xs.map fun b => 48 + b
theorem txt_len (xs : List Int) : (txt xs).length = xs.length := by simp [txt]
theorem nth_txt {xs : List Int} {k : Nat} (h : k < xs.length) : nth (txt xs) k = 48 + nth xs k := by
  rw [nth_lt (by rw [txt_len]; exact h), nth_lt h]; simp [txt]
def all01 (xs : List Int) : Prop := ∀ x ∈ xs, x = 0 ∨ x = 1
set_option maxHeartbeats 1000000 in
theorem IsBits_yes (A : Option Addr) (n c : Nat) (xs : List Int) (w : World) (B : Nat) (hr : RI w B A n xs) (hn : n ≤ 8192) (hx : all01 xs) :
    Calls Try.prog 59 #[.slice A n c] w fun e w' => e = .returned (.bool true) ∧ w = w' := by
  have HL := Lib.hid hr.len
  have HR := Lib.hid hr
  have HX := Lib.hid hx
  clear hr hx
  have b0 : bits .andNot .i64 0 1 = 0 := by decide
  have b1 : bits .andNot .i64 1 1 = 0 := by decide
  go_enter Try.func59, Try.ntmps59
  go_wp2_with fail
  go_loop [4, 10] (fun x i => ∃ k : Nat, k ≤ n ∧ i = .int .i64 k) (fun _ i => n - (intOf i).toNat)
  case atStart => exact ⟨0, Nat.zero_le _, rfl⟩
  case round =>
    obtain ⟨k, hk, rfl⟩ := hrel
    by_cases hlt : k < n
    · obtain ⟨b, o, rfl, hb, hc⟩ := HR.out.cells (by omega)
      have hck := hc k hlt
      clear hc
      rcases HX.out _ (nth_mem (xs := xs) (k := k) (by have := HL.out; omega)) with h | h
      all_goals
        rw [h] at hck
        clear h
        go_wp2_with fail
        go_round
        case rel => exact ⟨k + 1, by omega, by go_num⟩
        case measure => simp [intOf]; omega
    · go_wp2_with fail
      go_ret
      exact ⟨rfl, rfl⟩
set_option maxHeartbeats 1000000 in
theorem sIsBits_yes (A : Option Addr) (n c : Nat) (xs : List Int) (w : World) (B : Nat) (hr : RI w B A n xs) (hn : n ≤ 8192) (hx : all01 xs) :
    Calls Try.prog 58 #[.slice A n c] w fun e w' => e = .returned (.bool true) ∧ w = w' := by
  have HL := Lib.hid hr.len
  have HR := Lib.hid hr
  have HX := Lib.hid hx
  clear hr hx
  go_enter Try.func58, Try.ntmps58
  go_wp2_with fail
  go_loop [3] (fun i => ∃ k : Nat, k ≤ n ∧ i = .int .i64 k) (fun i => n - (intOf i).toNat)
  case atStart => exact ⟨0, Nat.zero_le _, rfl⟩
  case round =>
    obtain ⟨k, hk, rfl⟩ := hrel
    by_cases hlt : k < n
    · obtain ⟨b, o, rfl, hb, hc⟩ := HR.out.cells (by omega)
      have hck := hc k hlt
      clear hc
      have hin : inR (nth xs k) 0 1 = true := by
        rcases HX.out _ (nth_mem (xs := xs) (k := k) (by have := HL.out; omega)) with h | h <;> rw [h] <;> rfl
      go_wp2_with (go_at_call 37; refine (l01In_any _ _ _ _).mono ?_; rintro e w' ⟨rfl, rfl⟩)
      go_round
      case rel => exact ⟨k + 1, by omega, by go_num⟩
      case measure => simp [intOf]; omega
    · go_wp2_with fail
      go_ret
      exact ⟨rfl, rfl⟩
set_option maxHeartbeats 1000000 in
theorem BitsText_any (A : Option Addr) (n c : Nat) (xs : List Int) (w : World) (hr : RI w w.heap.size A n xs) (hn0 : 1 ≤ n) (hn : n ≤ 8192) (hx : all01 xs) :
    Calls Try.prog 44 #[.slice A n c] w fun e w' => e = .returned (.string (strOfNums (txt xs))) ∧ Below w.heap.size w w' := by
  obtain ⟨i0, hi⟩ := info_own info_u8s
  have HI := Lib.hid (And.intro i0.bytes.le_refl hi)
  have HIB := IsBits_yes A n c xs w w.heap.size hr hn hx
  have HL := Lib.hid hr.len
  have HR := Lib.hid hr
  have HX := Lib.hid hx
  have HII := Lib.hid HIB
  clear hr hx HIB hi
  go_enter Try.func44, Try.ntmps44
  go_wp2_with first | (go_at_call 59; refine HII.out.mono ?_; rintro e1 w1 ⟨rfl, rfl⟩) | (at_make; refine wpList_make_full w rfl _ _ 42 rfl w.heap.size 5 i0 (.int .u8 0) 1 Try.underlying42 HI.out.2.1 HI.out.2.2.1 HI.out.2.2.2.1 .i64 .i64 n n n (by rfl) (by rfl) rfl rfl (by rw [HI.out.2.2.2.2]; omega) (by unfold maxLen; omega) (Nat.le_refl _) ?_; intro w1 hown1 hgrow1)
  have hown2 : OwnB w1 w.heap.size (.slice (some ⟨w.heap.size, 0, none⟩) n n) (List.replicate n 0) := by
    have h := hown1
    rw [show (Value.int .u8 0).cells = #[Value.int .u8 0] from rfl, Nat.mul_one, toList_madeCells_one] at h
    unfold OwnB
    simpa using h
  have HO := Lib.hid hown2
  have HB := Lib.hid ((Below.refl w.heap.size w).grown hgrow1 (Nat.le_refl _) (fun k hk => by cases hk))
  clear hown1 hown2 hgrow1
  go_loopw [4, 5, 14] (fun x y i wr => ∃ k : Nat, k ≤ n ∧ i = .int .i64 k ∧ Hid (OwnB wr w.heap.size (.slice (some ⟨w.heap.size, 0, none⟩) n n) ((txt xs).take k ++ (List.replicate n (0 : Int)).drop k)) ∧ Hid (Below w.heap.size w wr))
    (fun _ _ i _ => n - (intOf i).toNat)
  case atStart => exact ⟨0, Nat.zero_le _, rfl, Lib.hid (by simpa using HO.out), HB.out⟩
  case round =>
    obtain ⟨k, hk, rfl, hown, hbel⟩ := hrel
    have hlen : (List.replicate n (0 : Int)).length = (txt xs).length := by rw [txt_len, HL.out]; simp
    have HLN := Lib.hid hlen
    have hlm : ((txt xs).take k ++ (List.replicate n (0 : Int)).drop k).length = n := by rw [len_mix hlen (by simpa using hk)]; simp
    have HLM := Lib.hid hlm
    clear hlen hlm
    by_cases hlt : k < n
    · obtain ⟨b, o, rfl, hb, hc⟩ := (HR.out.below hbel.out).cells (by omega)
      have hck := hc k hlt
      obtain ⟨g', c', e', hB', hg', hc', hf'⟩ := hown.out.row (by rw [HLM.out]; omega)
      obtain ⟨rfl, rfl⟩ : w.heap.size = g' ∧ n = c' := by
        simp only [Value.slice.injEq, Option.some.injEq, Addr.mk.injEq, and_true] at e'
        exact ⟨e'.1, e'.2.2⟩
      have hdk := hc' k (by rw [HLM.out]; exact hlt)
      have hfk := hf' k
      have hset := fun u => Lib.hid (OwnB.setn HLM.out hown.out (k := k) (u := u))
      have hmix := set_mix HLN.out (k := k) (by simpa using hlt)
      rw [nth_txt (by rw [HL.out]; exact hlt)] at hmix
      have HS := Lib.hid hset
      clear hc hc' hf' e' hset hB' hb
      rcases HX.out _ (nth_mem (xs := xs) (k := k) (by rw [HL.out]; exact hlt)) with h | h
      all_goals
        rw [h] at hck hmix
        have HM := Lib.hid hmix
        clear h hmix
        go_wp2_with fail
        go_roundw
        case rel => exact ⟨k + 1, by omega, by go_num, Lib.hid (by rw [← HM.out]; exact (HS.out _).out), Lib.hid (hbel.out.setCell (Nat.le_refl _) _)⟩
        case measure => simp [intOf]; omega
    · have hkn : k = n := by omega
      have hfin : OwnB wr w.heap.size (.slice (some ⟨w.heap.size, 0, none⟩) n n) (txt xs) := by
        have := hown.out
        rwa [hkn, List.take_of_length_le (by rw [txt_len, HL.out]; omega), List.drop_of_length_le (by simp), List.append_nil] at this
      obtain ⟨g', c', e', hB', hg', hc', hf'⟩ := hfin.row (by rw [txt_len, HL.out]; omega)
      obtain ⟨rfl, rfl⟩ : w.heap.size = g' ∧ n = c' := by
        simp only [Value.slice.injEq, Option.some.injEq, Addr.mk.injEq, and_true] at e'
        exact ⟨e'.1, e'.2.2⟩
      have hconv := run_convert_bytes_arg (P := Try.prog) wr 42 5 Try.underlying42 Try.underlying5 w.heap.size 0 n n (txt xs) (by rw [txt_len, HL.out])
        (fun i hi => by rw [Nat.zero_add]; exact hc' i (by rw [txt_len, HL.out]; exact hi)) 9 Try.underlying9
      clear hfin e' hB' hg' hc' hf' hkn
      go_wp2_with fail
      go_ret
      exact ⟨rfl, hbel.out⟩
set_option maxHeartbeats 1000000 in
theorem sBitsText_any (A : Option Addr) (n c : Nat) (xs : List Int) (w : World) (hr : RI w w.heap.size A n xs) (hn0 : 1 ≤ n) (hn : n ≤ 8192) (hx : all01 xs) :
    Calls Try.prog 43 #[.slice A n c] w fun e w' => e = .returned (.string (strOfNums (txt xs))) ∧ Below w.heap.size w w' := by
  obtain ⟨i0, hi⟩ := info_own info_u8s
  have HI := Lib.hid (And.intro i0.bytes.le_refl hi)
  have HIB := fun wr (hb : Below w.heap.size w wr) => sIsBits_yes A n c xs wr w.heap.size (hr.below hb) hn hx
  have HL := Lib.hid hr.len
  have HR := Lib.hid hr
  have HX := Lib.hid hx
  have HII := Lib.hid HIB
  have HE := Lib.hid (World.ownsRow_made (e := 5) (size := 1) (base := w.heap.size) w #[] 0 (Nat.le_refl _) (by unfold maxLen; omega) rfl)
  clear hr hx HIB hi
  go_enter Try.func43, Try.ntmps43
  go_wp2_with fail
  go_loopw [3, 4] (fun out i wr => ∃ k : Nat, k ≤ n ∧ i = .int .i64 k ∧ Hid (OwnB wr w.heap.size out ((txt xs).take k)) ∧ Hid (w.heap.size ≤ wr.heap.size ∧ Below w.heap.size w wr))
    (fun _ i _ => n - (intOf i).toNat)
  case atStart => exact ⟨0, Nat.zero_le _, rfl, HE.out, by simp, by go_grown⟩
  case round =>
    obtain ⟨k, hk, rfl, hown, hbel⟩ := hrel
    have htl : ((txt xs).take k).length = k := by rw [List.length_take, txt_len, HL.out]; omega
    have HTL := Lib.hid htl
    clear htl
    by_cases hlt : k < n
    · obtain ⟨b, o, rfl, hb, hc⟩ := (HR.out.below hbel.out.2).cells (by omega)
      have hck := hc k hlt
      have htk := take_nth (xs := txt xs) (k := k) (by rw [txt_len, HL.out]; exact hlt)
      rw [nth_txt (by rw [HL.out]; exact hlt)] at htk
      clear hc hb
      rcases HX.out _ (nth_mem (xs := xs) (k := k) (by rw [HL.out]; exact hlt)) with h | h
      all_goals
        rw [h] at hck htk
        have HK := Lib.hid htk
        clear h htk
        go_wp2_with first | (go_at_call 58; refine (HII.out _ hbel.out.2).mono ?_; rintro e1 w1 ⟨rfl, rfl⟩) | (at_builtin; refine wpList_append_own _ rfl _ _ 42 rfl w.heap.size 5 i0 (.int .u8 0) 1 1 Try.underlying42 HI.out.2.1 HI.out.2.2.1 HI.out.2.2.2.1 HI.out.2.2.2.2 rfl (by decide) _ _ _ rfl (OwnB.alloc hown.out _) ⟨wr.heap.size, 0, none⟩ 1 1 [.int .u8 _] rfl rfl (cell_one_new _ _ _) (one_okB _) (by rw [HTL.out]; unfold maxLen; omega) (by rw [HTL.out]; omega) (own_base hbel.out.1) ?_; intro va wa hown1 hgrow1 _; have hoa := Lib.hid (OwnB.snoc hown1); have hga := Lib.hid hgrow1; clear hown1 hgrow1)
        go_roundw
        case rel => exact ⟨k + 1, by omega, by go_num, by rw [HK.out]; exact hoa.out, by have h1 := hga.out.size; rw [World.size_alloc] at h1; have := hbel.out.1; omega, (hbel.out.2.alloc hbel.out.1 _).grown hga.out (own_base hbel.out.1) (fun k hk => (World.ownsRow.lt hown.out k hk).1)⟩
        case measure => simp [intOf]; omega
    · have hkn : k = n := by omega
      have hfin : OwnB wr w.heap.size u3 (txt xs) := by
        have := hown.out
        rwa [hkn, List.take_of_length_le (by rw [txt_len, HL.out]; omega)] at this
      obtain ⟨g', c', rfl, hB', hg', hc', hf'⟩ := hfin.row (by rw [txt_len, HL.out]; omega)
      rw [txt_len, HL.out]
      have hconv := run_convert_bytes_arg (P := Try.prog) wr 42 5 Try.underlying42 Try.underlying5 g' 0 n c' (txt xs) (by rw [txt_len, HL.out])
        (fun i hi => by rw [Nat.zero_add]; exact hc' i (by rw [txt_len, HL.out]; exact hi)) 9 Try.underlying9
      clear hfin hB' hg' hc' hf' hkn
      go_wp2_with fail
      go_ret
      exact ⟨rfl, hbel.out.2⟩
end Go.Proofs.Ytkdaodfhilhfgaa
