/-
  Contracts of chapter 8, the program: what is found for a list.
-/
import Derived.Test.YtgokleeofcleiaaC08S
import Derived.Test.YtgokleeofcleiaaMapI
import Derived.Test.YtgokleeofcleiaaRegOwn
namespace Go.Proofs.Ytgokleeofcleiaa
open Go.RowKit

set_option maxHeartbeats 400000 in
theorem cost_any (v d u c : Int) (w : World) (h1 : 0 ≤ d ∧ d ≤ 1000000) (h2 : 0 ≤ u ∧ u ≤ 1000000) :
    Calls Try.prog 98 #[.agg #[.int .i64 v, .int .i64 d, .int .i64 u, .int .i64 c]] w fun e w' => e = .returned (.int .i64 (2 * d + u)) ∧ Below w.heap.size w w' := by
  go_enter Try.func98, Try.ntmps98
  go_wp2
  go_ret
  exact ⟨rfl, by go_grown⟩
/-- What is found for a list. -/
def nrV (d l p : Int) (xs : List Int) : Int := if listB xs l then nB d l p xs else 0
def nrD (d l p : Int) (xs : List Int) : Int := if listB xs l then nL d l p xs else 0
def nrU (xs : List Int) (l : Int) : Int := if listB xs l then unkL xs else 0
def nrC (d l p : Int) (xs : List Int) : Int := if listB xs l then (if nOk d l p xs then 0 else 7) else 2
theorem nr_no {d l p : Int} {xs : List Int} (h : listB xs l = false) : nrV d l p xs = 0 ∧ nrD d l p xs = 0 ∧ nrU xs l = 0 ∧ nrC d l p xs = 2 := by
  unfold nrV nrD nrU nrC; simp [h]
theorem row3 {w : World} {b t : Nat} {x y z : Int} (h : RowAt w b t [x, y, z]) : w.cell? ⟨b, 0, none⟩ = some (.int .i64 x) ∧ w.cell? ⟨b, 1, none⟩ = some (.int .i64 y) ∧ w.cell? ⟨b, 2, none⟩ = some (.int .i64 z) :=
  ⟨h.cell (k := 0) (by simp), h.cell (k := 1) (by simp), h.cell (k := 2) (by simp)⟩
theorem row4 {w : World} {b t : Nat} {x y z u : Int} (h : RowAt w b t [x, y, z, u]) : w.cell? ⟨b, 0, none⟩ = some (.int .i64 x) ∧ w.cell? ⟨b, 1, none⟩ = some (.int .i64 y) ∧ w.cell? ⟨b, 2, none⟩ = some (.int .i64 z) ∧ w.cell? ⟨b, 3, none⟩ = some (.int .i64 u) ∧ ∀ k, w.frozen? ⟨b, k, none⟩ = false :=
  ⟨h.cell (k := 0) (by simp), h.cell (k := 1) (by simp), h.cell (k := 2) (by simp), h.cell (k := 3) (by simp), h.free⟩
theorem RowAt.grown {w w' : World} {b t : Nat} {xs : List Int} {row : Option Nat} (h : RowAt w b t xs) (hg : w.grownBy w' row) (hne : some b ≠ row) : RowAt w' b t xs := RowAt.of (hg.block b h.lt hne) h
theorem RowAt.setOther {w : World} {b t : Nat} {xs : List Int} (h : RowAt w b t xs) {p : Addr} (hp : b ≠ p.block) (u : Value) : RowAt (w.setCell p u) b t xs := RowAt.of (Below.heap_setCell w p u b hp) h
theorem RowAt.at_top {w : World} {b t : Nat} {cs : Array Value} {xs : List Int} (e : cs = (xs.map (Value.int .i64)).toArray) (hb : b = w.heap.size) : RowAt (w.alloc (.cells cs t)) b t xs := by
  subst hb; exact RowAt.made e
theorem RowAt.allocd {w : World} {b t : Nat} {xs : List Int} (h : RowAt w b t xs) (o : Obj) : RowAt (w.alloc o) b t xs := h.below ((Below.refl _ _).alloc (Nat.le_refl _) o) h.lt
/-- What the map holds behind v rounds. -/
def mapD (f : Nat → Nat) (L v : Nat) : DataW Unit := if v = 0 then .map [] else (DataW.map []).put (.int .i64 (nearN f L v).2) (.lit (.int .i64 (nearN f L v).1))
theorem mapD_yes {f : Nat → Nat} {L v : Nat} (h : f v < (nearN f L v).2) : mapD f L (v + 1) = (DataW.map []).put (.int .i64 (f v)) (.lit (.int .i64 v)) := by
  unfold mapD; rw [if_neg (by omega), nearN_yes h]
theorem mapD_no {f : Nat → Nat} {L v : Nat} (hf : f 0 ≤ L) (h : ¬ f v < (nearN f L v).2) : mapD f L (v + 1) = mapD f L v := by
  unfold mapD
  have hv : v ≠ 0 := by
    rintro rfl
    apply h
    show f 0 < L + 1
    omega
  rw [if_neg (by omega), if_neg hv, nearN_no h]
theorem mapD_at {f : Nat → Nat} {L v : Nat} {c : Int} (hv : v ≠ 0) (h : (mapD f L v).atKey (.int .i64 (nearN f L v).2) (.lit (.int .i64 0)) = .lit (.int .i64 c)) : c = (nearN f L v).1 := by
  unfold mapD at h
  rw [if_neg hv, put_at] at h
  simp at h
  exact h.symm
theorem or1 {a : Nat} (h : a < 1000000000) : bits .or .i64 ((2 * a : Nat) : Int) 1 = ((2 * a + 1 : Nat) : Int) ∧ bits .or .i64 ((2 * a : Nat) : Int) 0 = ((2 * a : Nat) : Int) := by
  have e := Nat.two_pow_add_eq_or_of_lt (i := 1) (b := 1) (by decide) a
  refine ⟨?_, ?_⟩
  · rw [show (1 : Int) = ((1 : Nat) : Int) from rfl, i64_or _ _ (by omega) (by decide)]
    rw [Nat.pow_one] at e; rw [← e]
  · rw [show (0 : Int) = ((0 : Nat) : Int) from rfl, i64_or _ _ (by omega) (by decide), Nat.or_zero]
set_option maxRecDepth 100000 in
set_option maxHeartbeats 4000000 in
theorem nearest_any (D k P : Nat) (A : Option Addr) (n c : Nat) (xs : List Int) (w : World) (B : Nat) (hr : RI w B A n xs) (hB : B ≤ w.heap.size) (hn : n ≤ 1000000000000000)
    (hD0 : 1 ≤ D) (hD : D ≤ 8) (hk0 : 1 ≤ k) (hk : D + k ≤ 24) (hp : polyOk P k) :
    Calls Try.prog 97 #[.agg #[.int .i64 D, .int .i64 ((D : Int) + k), .int .i64 P], .slice A n c] w fun e w' =>
      e = .returned (.agg #[.int .i64 (nrV D ((D : Int) + k) P xs), .int .i64 (nrD D ((D : Int) + k) P xs), .int .i64 (nrU xs ((D : Int) + k)), .int .i64 (nrC D ((D : Int) + k) P xs)]) ∧ Below w.heap.size w w' := by
  have HL := Lib.hid hr.len
  by_cases hnl : n = D + k
  · subst hnl
    have HR := Lib.hid hr
    have HP := Lib.hid hp
    clear hr hp
    have hpw := pow_bd (k := D) (by omega)
    have hpe : ((2 ^ D : Nat) : Int) = (2 : Int) ^ D := by simp
    have HPE := Lib.hid hpe
    clear hpe
    have hmm := @run_makeMap Try.prog
    go_enter Try.func97, Try.ntmps97
    go_wp2_with fail
    go_loopw [6, 7, 9, 22] (fun kn wd b i wr => ∃ j : Nat, j ≤ D + k ∧ i = .int .i64 j ∧ kn = .int .i64 (knownN (xs.take j)) ∧ wd = .int .i64 (wordN (xs.take j)) ∧ Hid (allR (xs.take j) = true) ∧
      Hid (wr = ((w.alloc (.cells #[.int .i64 D, .int .i64 ((D : Int) + k), .int .i64 P] 76)).alloc (.cells #[.int .i64 0, .int .i64 0, .int .i64 0, .int .i64 0] 105)).alloc (.cells #[.int .i64 0, .int .i64 0, .int .i64 (unkL (xs.take j)), .int .i64 0] 105)))
      (fun _ _ _ i _ => D + k - (intOf i).toNat)
    case atStart => exact ⟨0, Nat.zero_le _, rfl, rfl, rfl, rfl, rfl⟩
    case round =>
      obtain ⟨j, hj, rfl, rfl, rfl, hall, hw⟩ := hrel
      obtain rfl := hw.out
      by_cases hlt : j < D + k
      · have hr3 := ((HR.out.alloc hB (.cells #[.int .i64 D, .int .i64 ((D : Int) + k), .int .i64 P] 76)).alloc (by simp; omega) (.cells #[.int .i64 0, .int .i64 0, .int .i64 0, .int .i64 0] 105)).alloc (by simp; omega) (.cells #[.int .i64 0, .int .i64 0, .int .i64 (unkL (xs.take j)), .int .i64 0] 105)
        obtain ⟨b, o, rfl, hb, hc⟩ := hr3.cells (by omega)
        have hck := hc j hlt
        clear hc hr3
        have hltx : j < xs.length := by rw [HL.out]; exact hlt
        have htl : (xs.take j).length = j := by rw [List.length_take]; omega
        have hkl := knownN_lt (xs.take j)
        have hwl := wordN_lt (xs.take j)
        have hul := unkL_le (xs.take j)
        have hp24 : 2 ^ j ≤ 2 ^ 24 := Nat.pow_le_pow_right (by decide) (by omega)
        rw [htl] at hkl hwl hul
        have hk' := knownN_snoc (xs.take j) (nth xs j)
        have hw' := wordN_snoc (xs.take j) (nth xs j)
        have hu' := unkL_snoc (xs.take j) (nth xs j)
        rw [← take_nth hltx] at hk' hw' hu'
        have hal' := allR_take (xs := xs) hltx
        rw [hall.out] at hal'
        obtain ⟨kn, hkn⟩ : ∃ q, knownN (xs.take j) = q := ⟨_, rfl⟩
        obtain ⟨wd, hwd⟩ : ∃ q, wordN (xs.take j) = q := ⟨_, rfl⟩
        obtain ⟨un, hun⟩ : ∃ q, unkL (xs.take j) = q := ⟨_, rfl⟩
        rw [hkn] at hkl hk' ⊢
        rw [hwd] at hwl hw' ⊢
        rw [hun] at hul hu' hck ⊢
        have hkb : kn ≤ 16777215 := by omega
        have hwb : wd ≤ 16777215 := by omega
        clear hkl hwl hp24 htl hkn hwd hun
        have hbs : b < w.heap.size := by omega
        clear hb
        cases he : inR (nth xs j) (-1) 1
        · have hno : listB xs ((D : Int) + k) = false := by unfold listB; rw [allR_false hltx he]; rfl
          have HE := Lib.hid (nr_no (d := D) (p := P) hno)
          clear hk' hw' hu' hal' hno
          go_wp2_with (go_at_call 62; refine (inRange_any _ _ _ _).mono ?_; rintro e w' ⟨rfl, rfl⟩)
          go_returns
          exact ⟨by rw [HE.out.1, HE.out.2.1, HE.out.2.2.1, HE.out.2.2.2], by (repeat (first | (with_reducible assumption) | (with_reducible exact Below.refl _ _) | (with_reducible refine below_drewN' ?_ _) | (with_reducible refine Below.drew ?_) | ((with_reducible refine Below.alloc ?_ ?_ _); rotate_left; focus (first | (simp; done) | (simp; omega) | omega)) | ((with_reducible refine Below.setCell ?_ ?_ _); rotate_left; focus (first | (simp; done) | (simp; omega) | omega))))⟩
        · have hx := inR_true he
          rw [he] at hal'
          have HA := Lib.hid hal'
          clear hal'
          rcases (show nth xs j = -1 ∨ nth xs j = 0 ∨ nth xs j = 1 by omega) with h | h | h
          · rw [h] at hck he hk' hw' hu'
            have HK := Lib.hid hk'
            have HW := Lib.hid hw'
            have HU := Lib.hid hu'
            clear hk' hw' hu' hx h
            go_wp2_with (go_at_call 62; refine (inRange_any _ _ _ _).mono ?_; rintro e w' ⟨rfl, rfl⟩)
            go_roundw
            case rel => exact ⟨j + 1, by omega, by go_num, by rw [HK.out]; go_num, by rw [HW.out]; go_num, HA.out, by rw [HU.out]; rfl⟩
            case measure => simp [intOf]; omega
          · rw [h] at hck he hk' hw' hu'
            have HK := Lib.hid hk'
            have HW := Lib.hid hw'
            have HU := Lib.hid hu'
            have o1 : bits .or .i64 ((kn : Int) * 2) 1 = ((2 * kn + 1 : Nat) : Int) := by rw [show ((kn : Int) * 2) = ((2 * kn : Nat) : Int) by omega]; exact (or1 (by omega)).1
            have o2 : bits .or .i64 ((wd : Int) * 2) 0 = ((2 * wd : Nat) : Int) := by rw [show ((wd : Int) * 2) = ((2 * wd : Nat) : Int) by omega]; exact (or1 (by omega)).2
            have O1 := Lib.hid o1
            have O2 := Lib.hid o2
            clear hk' hw' hu' hx h o1 o2
            go_wp2_with (go_at_call 62; refine (inRange_any _ _ _ _).mono ?_; rintro e w' ⟨rfl, rfl⟩)
            go_roundw
            case rel => exact ⟨j + 1, by omega, by go_num, by rw [HK.out, O1.out]; rfl, by rw [HW.out, O2.out]; rfl, HA.out, by rw [HU.out]; rfl⟩
            case measure => simp [intOf]; omega
          · rw [h] at hck he hk' hw' hu'
            have HK := Lib.hid hk'
            have HW := Lib.hid hw'
            have HU := Lib.hid hu'
            have o1 : bits .or .i64 ((kn : Int) * 2) 1 = ((2 * kn + 1 : Nat) : Int) := by rw [show ((kn : Int) * 2) = ((2 * kn : Nat) : Int) by omega]; exact (or1 (by omega)).1
            have o2 : bits .or .i64 ((wd : Int) * 2) 1 = ((2 * wd + 1 : Nat) : Int) := by rw [show ((wd : Int) * 2) = ((2 * wd : Nat) : Int) by omega]; exact (or1 (by omega)).1
            have O1 := Lib.hid o1
            have O2 := Lib.hid o2
            clear hk' hw' hu' hx h o1 o2
            go_wp2_with (go_at_call 62; refine (inRange_any _ _ _ _).mono ?_; rintro e w' ⟨rfl, rfl⟩)
            go_roundw
            case rel => exact ⟨j + 1, by omega, by go_num, by rw [HK.out, O1.out]; rfl, by rw [HW.out, O2.out]; rfl, HA.out, by rw [HU.out]; rfl⟩
            case measure => simp [intOf]; omega
      · have hjn : j = D + k := by omega
        subst hjn
        have htk : xs.take (D + k) = xs := List.take_of_length_le (by rw [HL.out]; exact Nat.le_refl _)
        rw [htk] at hall ⊢
        have hux : unkL xs ≤ 24 := Nat.le_trans (unkL_le _) (by rw [HL.out]; omega)
        have hkl := knownN_lt xs
        have hwl := wordN_lt xs
        have hp24 : 2 ^ (D + k) ≤ 2 ^ 24 := Nat.pow_le_pow_right (by decide) hk
        rw [HL.out] at hkl hwl
        have HKL := Lib.hid hkl
        have hkb : knownN xs ≤ 16777215 := by omega
        have hwb : wordN xs ≤ 16777215 := by omega
        have hf0 : farV D k P xs 0 ≤ D + k := by have := farV_le D k P xs 0; rw [HL.out] at this; exact this
        have HF0 := Lib.hid hf0
        clear hkl hwl hp24 hf0
        go_wp2_with fail
        go_loopw [11, 12] (fun a x wr => ∃ v : Nat, v ≤ 2 ^ D ∧ a = .int .i64 v ∧ Hid (RowAt wr w.heap.size 76 [(D : Int), (D : Int) + k, (P : Int)]) ∧ Hid (RowAt wr (w.heap.size + 1) 105 [0, 0, 0, 0]) ∧
          Hid (RowAt wr (w.heap.size + 1 + 1) 105 [0, ((nearN (farV D k P xs) (D + k) v).2 : Int), (unkL xs : Int), 0]) ∧ Hid (MapI wr (w.heap.size + 1 + 1 + 1) 1 (mapD (farV D k P xs) (D + k) v)) ∧ Hid (Below w.heap.size w wr ∧ w.heap.size + 1 + 1 + 1 < wr.heap.size))
          (fun a _ _ => 2 ^ D - (intOf a).toNat)
        case atStart =>
          refine ⟨0, Nat.zero_le _, rfl, ?_, ?_, ?_, ?_, ?_, ?_⟩
          · refine Lib.hid ((((RowAt.at_top ?_ ?_).allocd _).allocd _).allocd _)
            · rfl
            · rfl
          · refine Lib.hid (((RowAt.at_top ?_ ?_).allocd _).allocd _)
            · rfl
            · simp
          · refine Lib.hid ((RowAt.at_top ?_ ?_).allocd _)
            · unfold nearN
              simp
            · simp
          · have := MapI.made (((w.alloc (.cells #[.int .i64 D, .int .i64 ((D : Int) + k), .int .i64 P] 76)).alloc (.cells #[.int .i64 0, .int .i64 0, .int .i64 0, .int .i64 0] 105)).alloc (.cells #[.int .i64 0, .int .i64 ((D : Int) + k + 1), .int .i64 (unkL xs), .int .i64 0] 105))
            simp only [World.size_alloc] at this
            exact World.ownsMap.mono this (by omega)
          · exact by (repeat (first | (with_reducible assumption) | (with_reducible exact Below.refl _ _) | (with_reducible refine below_drewN' ?_ _) | (with_reducible refine Below.drew ?_) | ((with_reducible refine Below.alloc ?_ ?_ _); rotate_left; focus (first | (simp; done) | (simp; omega) | omega)) | ((with_reducible refine Below.setCell ?_ ?_ _); rotate_left; focus (first | (simp; done) | (simp; omega) | omega))))
          · simp
        case round =>
          obtain ⟨v, hv, rfl, hbox, hres, hout, hmap, hbel⟩ := hrel
          have hnl := nearN_le (farV D k P xs) (D + k) v
          obtain ⟨k0, k1, k2⟩ := row3 hbox.out
          obtain ⟨o0, o1, o2, o3, of⟩ := row4 hout.out
          have hsz := hbel.out.2
          by_cases hlt2 : v < 2 ^ D
          · have hlt' : (v : Int) < 2 ^ D := by rw [← HPE.out]; omega
            have HLT := Lib.hid hlt2
            obtain ⟨e24, hfw⟩ := popc_24 hk HP.out hlt2
            obtain ⟨z, hz⟩ : ∃ z, (fword D (D + k) P v ^^^ wordN xs) &&& knownN xs = z := ⟨_, rfl⟩
            have hzk : z ≤ knownN xs := by rw [← hz]; exact Nat.and_le_right
            have hfx : fword D (D + k) P v ^^^ wordN xs < 2 ^ 24 := Nat.xor_lt_two_pow (by omega) (by omega)
            have hxa : bits .and .i64 (bits .xor .i64 (fword D (D + k) P v : Int) (wordN xs : Int)) (knownN xs : Int) = (z : Int) := by
              rw [i64_xor _ _ (by omega) (by omega), i64_and _ _ (by omega) (by omega), hz]
            have hz24 : z < 16777216 := by omega
            have hpz : popc 24 z = farV D k P xs v := by
              have h1 := popc_more (w := D + k) (v := z) (by have := HKL.out; omega) (24 - (D + k))
              rw [show D + k + (24 - (D + k)) = 24 by omega] at h1
              rw [h1, ← hz]
              have h2 := away_popc xs (fword D (D + k) P v) (fun x hx => allR_mem hall.out hx)
              rw [HL.out] at h2
              exact h2
            obtain ⟨fv, hfv⟩ : ∃ f, farV D k P xs v = f := ⟨_, rfl⟩
            have hfl : fv ≤ 24 := by rw [← hfv]; exact Nat.le_trans (farV_le _ _ _ _ _) (by rw [HL.out]; omega)
            rw [hfv] at hpz
            have HPZ := Lib.hid hpz
            have HFV := Lib.hid hfv
            clear e24 hz hzk hfx hpz hlt2 hfw
            go_wp2_with fail
            refine (number_any D k P v _ hD0 hD hk0 (by omega) HP.out HLT.out).mono ?_
            rintro e1 w1 ⟨rfl, hb1⟩
            have hbox1 := Lib.hid (hbox.out.below hb1 hbox.out.lt)
            have hres1 := Lib.hid (hres.out.below hb1 hres.out.lt)
            have hout1 := Lib.hid (hout.out.below hb1 hout.out.lt)
            have hmap1 := Lib.hid (hmap.out.below hb1 hsz)
            have hbel1 := Lib.hid (And.intro (hbel.out.1.trans (hb1.mono hbel.out.1.size)) (Nat.lt_of_lt_of_le hsz hb1.size))
            have hsz1 := hbel1.out.2
            obtain ⟨p0, p1, p2⟩ := row3 hbox1.out
            obtain ⟨q0, q1, q2, q3, qf⟩ := row4 hout1.out
            clear hb1
            go_wp2_with fail
            refine (ones64_any z _ hz24).mono ?_
            rintro e2 w2 ⟨rfl, rfl⟩
            rw [HPZ.out]
            by_cases hc : fv < (nearN (farV D k P xs) (D + k) v).2
            · have hst := nearN_yes (f := farV D k P xs) (L := D + k) (v := v) (by rw [HFV.out]; exact hc)
              have hmd := mapD_yes (f := farV D k P xs) (L := D + k) (v := v) (by rw [HFV.out]; exact hc)
              rw [HFV.out] at hst hmd
              have HST := Lib.hid hst
              have HMD := Lib.hid hmd
              obtain ⟨w3, hcl, hm3, hg3⟩ := MapI.clear hmap1.out
              have hbox3 := Lib.hid (hbox1.out.grown hg3 (by simp; omega))
              have hres3 := Lib.hid (hres1.out.grown hg3 (by simp))
              have hout3 := Lib.hid (hout1.out.grown hg3 (by simp))
              have hbel3 := Lib.hid (And.intro (hbel1.out.1.grown hg3 hbel1.out.1.size (fun k hk => by cases hk; omega)) (Nat.lt_of_lt_of_le hsz1 hg3.size))
              have hsz3 := hbel3.out.2
              obtain ⟨r0, r1, r2, r3, rf⟩ := row4 hout3.out
              have HM4 := Lib.hid (hm3.setCell (p := ⟨w.heap.size + 1 + 1, 1, none⟩) (by simp) (.int .i64 fv))
              have hwf : (Lit.int .i64 (fv : Int)).wf = true := by simp [Lit.wf, IntKind.min, IntKind.max, IntKind.bits, IntKind.signed]; omega
              have hwf2 : (Lit.int .i64 (v : Int)).wf = true := by
                have h1 := hpw.2
                simp [Lit.wf, IntKind.min, IntKind.max, IntKind.bits, IntKind.signed]; omega
              have HKEY := Lib.hid (Maps.keyOf_int_mk (P := Try.prog) Try.underlying2 hwf)
              have HVAL := Lib.hid (plainElem_int (H := Unit) (P := Try.prog) Try.underlying2 hwf2)
              clear hst hmd hm3 hg3 hwf hwf2
              go_wp2_with (at_mapUpdate; refine wpList_mapUpdate_own _ rfl _ _ _ 114 rfl 2 2 (Maps.int_keyed Try.underlying2) Try.underlying114 _ (w.heap.size + 1 + 1 + 1) 0 _ rfl HM4.out (by unfold maxLen; omega) _ _ _ rfl rfl HKEY.out _ [] HVAL.out ?_; intro w5 hown5 hgrow5)
              have hbox5 := Lib.hid ((hbox3.out.setOther (p := ⟨w.heap.size + 1 + 1, 1, none⟩) (by simp; omega) (.int .i64 fv)).grown hgrow5 (by simp; omega))
              have hres5 := Lib.hid ((hres3.out.setOther (p := ⟨w.heap.size + 1 + 1, 1, none⟩) (by simp) (.int .i64 fv)).grown hgrow5 (by simp))
              have hout5 := Lib.hid ((hout3.out.set (k := 1) fv).grown hgrow5 (by simp))
              have hbel5 := Lib.hid (And.intro ((hbel3.out.1.setCell (p := ⟨w.heap.size + 1 + 1, 1, none⟩) (by simp; omega) (.int .i64 fv)).grown hgrow5 (by have := hbel3.out.2; simp; omega) (fun k hk => by cases hk; omega)) (show w.heap.size + 1 + 1 + 1 < w5.heap.size by have := hgrow5.size; simp at this; have := hbel3.out.2; omega))
              have HM5 := Lib.hid hown5
              clear hgrow5 hown5
              go_roundw
              case rel => exact ⟨v + 1, by have := HLT.out; omega, by go_num, hbox5.out, hres5.out, Lib.hid (hout5.out.to (by rw [HST.out]; rfl)), Lib.hid (by rw [HMD.out]; exact HM5.out), hbel5.out⟩
              case measure => (have := HLT.out; simp [intOf]; omega)
            · have hst := nearN_no (f := farV D k P xs) (L := D + k) (v := v) (by rw [HFV.out]; exact hc)
              have hmd := mapD_no (f := farV D k P xs) (L := D + k) (v := v) HF0.out (by rw [HFV.out]; exact hc)
              have HST := Lib.hid hst
              have HMD := Lib.hid hmd
              clear hst hmd
              go_wp2_with fail
              go_roundw
              case rel => exact ⟨v + 1, by have := HLT.out; omega, by go_num, hbox1.out, hres1.out, Lib.hid (hout1.out.to (by rw [HST.out])), Lib.hid (by rw [HMD.out]; exact hmap1.out), hbel1.out⟩
              case measure => (have := HLT.out; simp [intOf]; omega)
          · have hlt' : ¬ (v : Int) < 2 ^ D := by rw [← HPE.out]; omega
            have hve : 2 ^ D = v := by omega
            have hv0 : v ≠ 0 := by have := Nat.two_pow_pos D; omega
            have hml := minD_le D (D + k) P v
            have hwf : (Lit.int .i64 ((nearN (farV D k P xs) (D + k) v).2 : Int)).wf = true := by simp [Lit.wf, IntKind.min, IntKind.max, IntKind.bits, IntKind.signed]; omega
            have HKEY := Lib.hid (Maps.keyOf_int_mk (P := Try.prog) Try.underlying2 hwf)
            have hlb : listB xs ((D : Int) + k) = true := by
              unfold listB
              rw [hall.out, HL.out]
              simp
            obtain ⟨e1, e2, e3⟩ := n_at D k P xs
            rw [hve] at e1 e2 e3
            have hres' : nrV D ((D : Int) + k) P xs = (nearN (farV D k P xs) (D + k) v).1 ∧ nrD D ((D : Int) + k) P xs = (nearN (farV D k P xs) (D + k) v).2 ∧ nrU xs ((D : Int) + k) = unkL xs ∧ nrC D ((D : Int) + k) P xs = if 2 * (nearN (farV D k P xs) (D + k) v).2 + unkL xs < minD D (D + k) P v then 0 else 7 := by
              unfold nrV nrD nrU nrC
              rw [hlb, e1, e2, e3]
              simp
            have HRS := Lib.hid hres'
            have hdist := fun w => distance8_any D k P w hD0 hD hk0 hk HP.out
            rw [hve] at hdist
            have HDI := Lib.hid hdist
            have HCO := Lib.hid (fun w => cost_any ((nearN (farV D k P xs) (D + k) v).1 : Int) ((nearN (farV D k P xs) (D + k) v).2 : Int) (unkL xs : Int) 0 w (by omega) (by omega))
            clear hres' e1 e2 e3 hlb hwf hdist hve
            obtain ⟨bv, hbv⟩ : ∃ b, (nearN (farV D k P xs) (D + k) v).1 = b := ⟨_, rfl⟩
            obtain ⟨lv, hlv⟩ : ∃ b, (nearN (farV D k P xs) (D + k) v).2 = b := ⟨_, rfl⟩
            obtain ⟨uv, huv⟩ : ∃ b, unkL xs = b := ⟨_, rfl⟩
            obtain ⟨mv, hmv⟩ : ∃ b, minD D (D + k) P v = b := ⟨_, rfl⟩
            have HAT := Lib.hid (fun cc h => mapD_at (f := farV D k P xs) (L := D + k) (c := cc) hv0 h)
            rw [hbv, hlv, huv] at HCO
            rw [hbv, hlv, huv, hmv] at HRS
            rw [hmv] at HDI hml
            rw [hbv, hlv] at hnl HAT
            rw [hlv] at HKEY o1 hout
            rw [huv] at hux o2 hout ⊢
            clear hbv hlv huv hmv
            by_cases hge : 2 * lv + uv < mv
            all_goals
              have hgi : (2 * (lv : Int) + uv < mv) ↔ 2 * lv + uv < mv := by omega
              first | rw [if_pos hge] at HRS | rw [if_neg hge] at HRS
              go_wp2_with (at_lookup; refine wpList_lookup_own_int _ rfl _ _ 114 rfl 2 2 .i64 (Maps.int_keyed Try.underlying2) Try.underlying114 Try.underlying2 (zero_i64 _) (w.heap.size + 1 + 1 + 1) 1 _ rfl hmap.out _ _ rfl HKEY.out ?_; intro cc hat hwc; obtain rfl := HAT.out cc hat)
              have hsa : w.heap.size + 1 + 1 < wr.heap.size := by omega
              have hsb : w.heap.size < wr.heap.size := by omega
              have hBw := hbel.out.1
              refine wp_region_qat [] 5 [] (by kernel_rfl) (by kernel_rfl) ?_
              intro hbc
              simp only [List.take_succ_cons, List.take_zero, List.drop_succ_cons, List.drop_zero]
              repeat (first
                | refine wpQ_pass rfl ?_
                | (refine wpQ_step rfl (fun K hK => ?_)
                   go_simp
                   first
                     | (refine hK _ ?_; clear hK K)
                     | (apply Exists.intro
                        refine ⟨fun z => ?_, ?_⟩
                        focus (first | (go_at_call 98; exact HCO.out _) | (go_at_call 115; exact HDI.out _))
                        refine hK _ ?_
                        clear hK K)))
              refine wpQ_nil ⟨?_, ?_⟩
              · exact rfl
              intro  w7 hb7 hF7
              clear hbc
              obtain ⟨hc7, hf7⟩ := bcell hb7
              have hB7 : Below w.heap.size w w7 := below_then (by first | (go_grown; done) | (repeat (first | (with_reducible assumption) | (with_reducible exact Below.refl _ _) | (with_reducible refine below_drewN' ?_ _) | (with_reducible refine Below.drew ?_) | ((with_reducible refine Below.alloc ?_ ?_ _); rotate_left; focus (first | (simp; done) | (simp; omega) | omega)) | ((with_reducible refine Below.setCell ?_ ?_ _); rotate_left; focus (first | (simp; done) | (simp; omega) | omega))))) (by first | (simp; done) | (simp; omega) | omega) hb7
              have hz7a : w.heap.size + 1 + 1 < w7.heap.size := (by have := hb7.size; first | omega | (simp at this; omega))
              clear hF7
              try simp only [Act.put, List.setIfInBounds_toArray, List.set_cons_succ, List.set_cons_zero]
              have hout7 := Lib.hid (((hout.out.set (k := 0) (bv : Int)).to (show _ = [(bv : Int), (lv : Int), (uv : Int), 0] from rfl)).below hb7 (by simp; omega))
              have hres7 := Lib.hid ((hres.out.setOther (p := ⟨w.heap.size + 1 + 1, 0, none⟩) (by simp) (.int .i64 (bv : Int))).below hb7 (by simp; omega))
              have hbel7 := Lib.hid ((hbel.out.1.setCell (p := ⟨w.heap.size + 1 + 1, 0, none⟩) (by simp; omega) (.int .i64 (bv : Int))).trans (hb7.mono (by simp; omega)))
              obtain ⟨t0, t1, t2, t3, tf⟩ := row4 hout7.out
              obtain ⟨s0, s1, s2, s3, sf⟩ := row4 hres7.out
              clear hb7 hc7 hf7 hB7 hz7a
              have hB8 := hbel7.out
              go_wp2_with fail
              (try simp only [Exit.inBlock, Exit.then]); refine bodyPost_ret (by simp [results, Try.results97, go_sem, s0, s1, s2, s3]; try rfl) rfl ?_
              exact ⟨by rw [HRS.out.1, HRS.out.2.1, HRS.out.2.2.1, HRS.out.2.2.2], by (repeat (first | (with_reducible assumption) | (with_reducible exact Below.refl _ _) | (with_reducible refine below_drewN' ?_ _) | (with_reducible refine Below.drew ?_) | ((with_reducible refine Below.alloc ?_ ?_ _); rotate_left; focus (first | (simp; done) | (simp; omega) | omega)) | ((with_reducible refine Below.setCell ?_ ?_ _); rotate_left; focus (first | (simp; done) | (simp; omega) | omega))))⟩
  · have hno : listB xs ((D : Int) + k) = false := by
      unfold listB
      rw [show ((xs.length : Int) == (D : Int) + k) = false by simp; have := HL.out; omega]; simp
    obtain ⟨e1, e2, e3, e4⟩ := nr_no (d := D) (p := P) hno
    rw [e1, e2, e3, e4]
    have hne : ((n : Int) != (D : Int) + k) = true := by simp; omega
    clear e1 e2 e3 e4 hr hp hno
    go_enter Try.func97, Try.ntmps97
    go_wp2_with fail
    go_returns
    exact ⟨rfl, by (repeat (first | (with_reducible assumption) | (with_reducible exact Below.refl _ _) | (with_reducible refine below_drewN' ?_ _) | (with_reducible refine Below.drew ?_) | ((with_reducible refine Below.alloc ?_ ?_ _); rotate_left; focus (first | (simp; done) | (simp; omega) | omega)) | ((with_reducible refine Below.setCell ?_ ?_ _); rotate_left; focus (first | (simp; done) | (simp; omega) | omega))))⟩
end Go.Proofs.Ytgokleeofcleiaa
