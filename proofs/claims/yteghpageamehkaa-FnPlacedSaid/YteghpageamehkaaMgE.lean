/-
  The row FnPlaced: the elements that a code draws are taken as they have been placed; no condition.
-/
import Derived.Test.YteghpageamehkaaMgA
import Derived.Test.YteghpageamehkaaMgB
import Derived.Test.YteghpageamehkaaC14E
import Derived.Test.YteghpageamehkaaArgB
import Derived.Test.YteghpageamehkaaMgD
import Derived.Test.YteghpageamehkaaMgC
namespace Go.Proofs.Yteghpageamehkaa
open Go.RowKit

theorem colP_keep {keep : Int → Int → Bool} {N j m : Nat} {p : Int × Int} (hp : p ∈ colP keep N j m) : keep p.1 p.2 = true := by
  induction m with
  | zero => simp [colP] at hp
  | succ m ih =>
    simp only [colP] at hp
    rcases List.mem_append.1 hp with h | h
    · exact ih h
    · split at h
      · rename_i hk
        simp only [List.mem_singleton] at h
        subst h; exact hk
      · simp at h
theorem dpL_keep {keep : Int → Int → Bool} {N j : Nat} {p : Int × Int} (hp : p ∈ dpL keep N j) : keep p.1 p.2 = true := by
  induction j with
  | zero => simp [dpL] at hp
  | succ j ih =>
    simp only [dpL] at hp
    rcases List.mem_append.1 hp with h | h
    · exact ih h
    · exact colP_keep h
theorem data_neg {N : Nat} (h : 17 ≤ N ∧ N ≤ 41 ∧ N % 4 = 1) {p : Int × Int} (hp : p ∈ dataL N) : nth (fixL N) (idxP N p) < 0 := by
  have h1 := dpL_keep (show p ∈ dpL (fun r c => !noD N r c) N ((N - 1) / 2) from hp)
  have h2 := data_in4 h p hp
  have h3 := idxP_lt h2
  simp only [Bool.not_eq_true'] at h1
  unfold noD at h1
  have h4 : fixB N (N * N) p.1 p.2 = false := by
    cases e : fixB N (N * N) p.1 p.2 with
    | false => rfl
    | true => rw [e] at h1; simp at h1
  unfold fixB at h4
  have e1 : decide (p.1 * (N : Int) + p.2 < ((N * N : Nat) : Int)) = true := decide_eq_true (by rw [h3.2]; omega)
  rw [decide_eq_true h2.1, decide_eq_true h2.2.1, decide_eq_true h2.2.2.2, e1] at h4
  simp only [Bool.true_and, decide_eq_false_iff_not] at h4
  unfold idxP
  omega
theorem idx_inj {N : Nat} {p q : Int × Int} (hp : 0 ≤ p.1 ∧ 0 ≤ p.2 ∧ p.1 < N ∧ p.2 < N) (hq : 0 ≤ q.1 ∧ 0 ≤ q.2 ∧ q.1 < N ∧ q.2 < N) (h : idxP N p = idxP N q) : p = q := by
  obtain ⟨a, b⟩ := q
  simp only at hq
  obtain ⟨R, rfl⟩ := Int.eq_ofNat_of_zero_le hq.1
  obtain ⟨C, rfl⟩ := Int.eq_ofNat_of_zero_le hq.2.1
  have e : idxP N ((R : Int), (C : Int)) = R * N + C := (idx_eq (p := ((R : Int), (C : Int))) (by simp only; omega) (by omega)).2 rfl
  rw [e] at h
  exact (idx_eq hp (by omega)).1 h
theorem data_idx {N : Nat} (h : 17 ≤ N ∧ N ≤ 41 ∧ N % 4 = 1) {i j : Nat} (hi : i < (dataL N).length) (hj : j < (dataL N).length) (e : idxP N (nthP (dataL N) i) = idxP N (nthP (dataL N) j)) : i = j := by
  have h1 := idx_inj (data_in4 h _ (nthP_mem hi)) (data_in4 h _ (nthP_mem hj)) e
  rcases Nat.lt_trichotomy i j with g | g | g
  · exact absurd h1 (data_apart h g hj)
  · exact g
  · exact absurd h1.symm (data_apart h g hi)
theorem setL_miss {N : Nat} {ps : List (Int × Int)} {bs : Nat → Int} {xs : List Int} {k : Nat} (hk : k < xs.length) : ∀ i, (∀ j, j < i → idxP N (nthP ps j) ≠ k) → nth (setL N ps bs xs i) k = nth xs k := by
  intro i
  induction i with
  | zero => intro _; rfl
  | succ i ih =>
    intro h
    simp only [setL]
    rw [nth_set (by rw [setL_len]; exact hk), if_neg (h i (by omega))]
    exact ih fun j hj => h j (by omega)
theorem setL_hit {N : Nat} {ps : List (Int × Int)} {bs : Nat → Int} {xs : List Int} {j : Nat} (hk : idxP N (nthP ps j) < xs.length) : ∀ i, j < i → (∀ l, l < i → idxP N (nthP ps l) = idxP N (nthP ps j) → l = j) → nth (setL N ps bs xs i) (idxP N (nthP ps j)) = bs j := by
  intro i
  induction i with
  | zero => intro h; omega
  | succ i ih =>
    intro hj h
    simp only [setL]
    rw [nth_set (by rw [setL_len]; exact hk)]
    by_cases e : idxP N (nthP ps i) = idxP N (nthP ps j)
    · rw [if_pos e, h i (by omega) e]
    · rw [if_neg e]
      have hji : j ≠ i := fun x => e (by rw [x])
      exact ih (by omega) fun l hl => h l (by omega)
theorem setL_in {N : Nat} {ps : List (Int × Int)} {bs : Nat → Int} {xs : List Int} (hb : ∀ i, bs i = 0 ∨ bs i = 1) (hx : ∀ x ∈ xs, -1 ≤ x ∧ x ≤ 1) : ∀ i, ∀ x ∈ setL N ps bs xs i, -1 ≤ x ∧ x ≤ 1 := by
  intro i
  induction i with
  | zero => exact hx
  | succ i ih =>
    intro x h
    simp only [setL] at h
    rcases List.mem_or_eq_of_mem_set h with h | rfl
    · exact ih x h
    · rcases hb i with e | e <;> omega
theorem fix_all {N : Nat} (h : 17 ≤ N ∧ N ≤ 41 ∧ N % 4 = 1) : ∀ x ∈ fixL N, -1 ≤ x ∧ x ≤ 1 := by
  intro x hx
  obtain ⟨k, hk, rfl⟩ := List.getElem_of_mem hx
  rw [← nth_lt hk]
  exact fixL_in h (by rw [fixL_len] at hk; exact hk)
theorem cnt2_zero {p : Int → Int → Bool} {fs xs : List Int} : ∀ {k : Nat}, (∀ j, j < k → p (nth fs j) (nth xs j) = false) → cnt2 p fs xs k = 0 := by
  intro k
  induction k with
  | zero => intro _; rfl
  | succ k ih => intro h; simp only [cnt2]; rw [h k (by omega), ih fun j hj => h j (by omega)]; rfl
theorem sq_mk {N : Nat} {xs : List Int} (h : 17 ≤ N ∧ N ≤ 41 ∧ N % 4 = 1) (hs : sizeB N = true) (hl : xs.length = N * N) (ha : ∀ x ∈ xs, -1 ≤ x ∧ x ≤ 1) : sqB N N xs = true := by
  have hNN : N * N ≤ 1681 := Nat.mul_le_mul h.2.1 h.2.1
  have hNi : (N : Int) * N ≤ 1681 := by
    have h1 : ((N * N : Nat) : Int) ≤ 1681 := by omega
    rw [Int.natCast_mul] at h1
    exact h1
  have hal : allIn (-1) 1 xs = true := by
    unfold allIn
    rw [List.all_eq_true]
    intro x hx
    have := ha x hx
    simp [inR]; omega
  have g1 : inR (N : Int) 1 40000 = true := by
    simp only [inR, Bool.and_eq_true, decide_eq_true_eq]; omega
  have g2 : decide ((N : Int) * N ≤ 40000) = true := decide_eq_true (by omega)
  have g3 : decide ((xs.length : Int) = (N : Int) * N) = true := decide_eq_true (by rw [hl]; simp)
  unfold sqB gridB
  rw [g1, g2, g3, hal, hs]
  simp
/-- The value of the bits of one element. -/
theorem tkV_bits {K x : Nat} {cs : List Int} {a : Nat} (hx : x < 2 ^ K) (hc : ∀ t, t < K → nth cs (a + t) = ((x / 2 ^ (K - 1 - t) % 2 : Nat) : Int)) : ∀ j, j ≤ K → tkV cs a j = ((x / 2 ^ (K - j) : Nat) : Int) := by
  intro j
  induction j with
  | zero => intro _; simp only [tkV, Nat.sub_zero]; rw [Nat.div_eq_of_lt hx]; rfl
  | succ j ih =>
    intro hj
    have h1 := ih (by omega)
    have h2 := hc j (by omega)
    have e1 : K - (j + 1) = K - 1 - j := by omega
    have e2 : K - j = K - 1 - j + 1 := by omega
    have h3 : x / 2 ^ (K - j) = x / 2 ^ (K - 1 - j) / 2 := by rw [e2, Nat.pow_succ, Nat.div_div_eq_div_mul]
    simp only [tkV, tkS]
    rw [h1, h2, h3, e1]
    generalize x / 2 ^ (K - 1 - j) = y
    have g1 : decide (((y % 2 : Nat) : Int) < 0) = false := decide_eq_false (by omega)
    have g2 : decide (((y / 2 : Nat) : Int) < 0) = false := decide_eq_false (by omega)
    rw [g1, g2]
    show 2 * ((y / 2 : Nat) : Int) + ((y % 2 : Nat) : Int) = (y : Int)
    omega
theorem take_bits {K : Nat} {cs es : List Int} (hv : ∀ k, k < es.length → 0 ≤ nth es k ∧ (nth es k).toNat < 2 ^ K) (hc : ∀ m, m < es.length → ∀ t, t < K → nth cs (m * K + t) = (((nth es m).toNat / 2 ^ (K - 1 - t) % 2 : Nat) : Int)) :
    ∀ m, m ≤ es.length → elL cs K m = es.take m ∧ unL cs K m = [] := by
  intro m
  induction m with
  | zero => intro _; simp [elL, unL]
  | succ m ih =>
    intro hm
    obtain ⟨h1, h2⟩ := ih (by omega)
    have h3 := tkV_bits (hv m (by omega)).2 (hc m (by omega)) K (Nat.le_refl _)
    rw [Nat.sub_self, Nat.pow_zero, Nat.div_one, Int.toNat_of_nonneg (hv m (by omega)).1] at h3
    have h4 := (hv m (by omega)).1
    simp only [elL, unL]
    rw [h1, h2, h3, decide_eq_false (by omega), take_nth (by omega)]
    exact ⟨by rw [show max 0 (nth es m) = nth es m by omega], rfl⟩
theorem placed_fact {m d : Int} {es : List Int} (h : peC m d es = 0) :
    teC (peN m d es) (peN m d es) (peL m d es) d = 0 ∧ teE (peN m d es) (peN m d es) (peL m d es) d = es ∧ teU (peN m d es) (peN m d es) (peL m d es) d = [] ∧
      feC (peN m d es) (peN m d es) (peL m d es) = 0 ∧ feV (peN m d es) (peN m d es) (peL m d es) = 0 := by
  revert h
  unfold peC peN peL
  cases hs : sizeB m
  · simp
  cases hd : inR d 1 8
  · simp
  obtain ⟨N, rfl, h1, h2, h3⟩ := sizeB_true hs
  have hN : 17 ≤ N ∧ N ≤ 41 ∧ N % 4 = 1 := ⟨h1, h2, h3⟩
  have hdr := inR_true hd
  obtain ⟨K, rfl⟩ := Int.eq_ofNat_of_zero_le (show 0 ≤ d by omega)
  have hK1 : 1 ≤ K := by omega
  simp only [cond_true, Int.toNat_natCast]
  by_cases hl : es.length = (dataL N).length / K
  · rw [decide_eq_true hl]
    cases ha : allIn 0 (2 ^ K - 1) es
    · simp
    · intro _
      simp only [cond_true]
      obtain ⟨rs, hrs⟩ : ∃ rs, setL N (dataL N) (bitAt K es) (fixL N) (dataL N).length = rs := ⟨_, rfl⟩
      rw [hrs]
      have hrl : rs.length = N * N := by rw [← hrs, setL_len, fixL_len]
      have hsq : sqB N N rs = true := sq_mk hN hs hrl (by rw [← hrs]; exact setL_in (bitAt_01 K es) (fix_all hN) _)
      have hqK : es.length * K ≤ (dataL N).length := by rw [hl]; exact Nat.div_mul_le_self _ _
      have hat : ∀ i, i < (dataL N).length → nth (atL N rs (dataL N)) i = bitAt K es i := fun i hi => by
        rw [atL_nth hi, ← hrs]
        exact setL_hit (by rw [fixL_len]; exact (idxP_lt (data_in4 hN _ (nthP_mem hi))).1) _ hi fun l hl' e => data_idx hN hl' hi e
      have hfe : cnt2 ferrP (fixL N) rs (N * N) = 0 := cnt2_zero fun k hk => by
        by_cases hf : 0 ≤ nth (fixL N) k
        · have hm : nth rs k = nth (fixL N) k := by
            rw [← hrs]
            refine setL_miss (by rw [fixL_len]; exact hk) _ fun j hj e => ?_
            have := data_neg hN (nthP_mem hj)
            rw [e] at this
            omega
          rw [hm]; simp [ferrP]
        · simp [ferrP, hf]
      have htk := take_bits (K := K) (cs := atL N rs (dataL N)) (es := es)
        (fun k hk => by
          have h5 := allIn_nth ha hk
          have h6 : ((2 ^ K : Nat) : Int) = (2 : Int) ^ K := by simp
          exact ⟨h5.1, by omega⟩)
        (fun j hj t ht => by
          have h5 : j * K + t < es.length * K := by
            have := Nat.mul_le_mul_right K (show j + 1 ≤ es.length by omega)
            rw [Nat.succ_mul] at this; omega
          rw [hat _ (by omega)]
          unfold bitAt
          rw [decide_eq_true h5]
          show nth (bitsF K es) (j * K + t) = _
          rw [nth_bitsF hK1 h5, show (j * K + t) / K = j from (by rw [Nat.mul_comm, Nat.mul_add_div (by omega), Nat.div_eq_of_lt ht, Nat.add_zero]), show (j * K + t) % K = t from (by rw [Nat.mul_comm, Nat.mul_add_mod, Nat.mod_eq_of_lt ht])])
        es.length (Nat.le_refl _)
      rw [List.take_length] at htk
      unfold teC teE teU feC feV
      rw [hsq, hd]
      simp only [cond_true, Int.toNat_natCast, if_true, hrl, hfe]
      rw [← hl]
      refine ⟨?_, htk.1, htk.2, ?_, ?_⟩ <;> first | trivial | rfl | simp
  · rw [decide_eq_false hl]; simp
end Go.Proofs.Yteghpageamehkaa
namespace Go.Proofs.Yteghpageamehkaa
set_option linter.unusedSimpArgs false
open Go.ChangeShapes Go.WideShapes Go.ChangeAt Go.RowKit

theorem likeGrid_same (r c : Int) (A1 A2 : Option Addr) (n c1 c2 : Nat) (xs : List Int) (w : World) (B1 B2 : Nat) (hr1 : RI w B1 A1 n xs) (hr2 : RI w B2 A2 n xs) (hB1 : B1 ≤ w.heap.size) (hB2 : B2 ≤ w.heap.size) (hn : n ≤ 1000000000000) :
    Calls Try.prog 40 #[.agg #[.int .i64 r, .int .i64 c, .slice A1 n c1], .agg #[.int .i64 r, .int .i64 c, .slice A2 n c2]] w fun e w' => e = .returned (.bool true) ∧ Below w.heap.size w w' := by
  have HE := Lib.hid (fun (w' : World) (hb : Below w.heap.size w w') => likeInts_any A1 A2 n n c1 c2 xs xs w' w.heap.size w.heap.size ((hr1.more hB1).below hb) ((hr2.more hB2).below hb) hn hn)
  have hx : (xs == xs) = true := by simp
  have hr0 : (r == r) = true := by simp
  have hc0 : (c == c) = true := by simp
  clear hr1 hr2
  rw [hx] at HE
  clear hx
  go_enter Try.func40, Try.ntmps40
  go_wp2_with (go_at_call 42; refine (HE.out _ (by go_grown)).mono ?_; rintro e1 w1 ⟨rfl, m1, rfl⟩)
  go_ret
  exact ⟨rfl, below_drewN' (by go_grown) _⟩
theorem likeI_same (A1 A2 : Option Addr) (n1 n2 c1 c2 : Nat) (xs : List Int) (w : World) (B1 B2 : Nat) (hr1 : RI w B1 A1 n1 xs) (hr2 : RI w B2 A2 n2 xs) (hn : n1 ≤ 1000000000000) (hn2 : n2 ≤ 1000000000000) :
    Calls Try.prog 42 #[.slice A1 n1 c1, .slice A2 n2 c2] w fun e w' => e = .returned (.bool true) ∧ Below w.heap.size w w' :=
  (likeInts_any A1 A2 n1 n2 c1 c2 xs xs w B1 B2 hr1 hr2 hn hn2).mono fun e w' ⟨h1, m, h2⟩ => ⟨by rw [h1]; simp, by subst h2; exact below_drewN' (Below.refl _ _) m⟩
set_option maxRecDepth 20000 in
set_option maxHeartbeats 4000000 in
theorem lawFnPlaced (A : Option Addr) (n c : Nat) (bs : List Int) (w : World) (hr : RB w w.heap.size A n bs) :
    Calls Try.prog 8 #[.slice A n c] w fun e' w' => e' = .returned (.bool true) ∧ Below w.heap.size w w' := by
  have HR := Lib.hid hr
  clear hr
  by_cases hbig : 4096 < n
  · have hbd : decide (4096 < n) = true := decide_eq_true hbig
    go_enter Try.func8, Try.ntmps8
    go_wp2_with (go_at_call 11; go_call (big_any _ _ _ _) as e0 w0 ⟨rfl, hb0⟩; obtain ⟨hc0, hf0⟩ := bcell hb0; have hB0 : Below w.heap.size w w0 := (below_then (by first | (go_grown; done) | (repeat (first | (with_reducible assumption) | (with_reducible exact Below.refl _ _) | (with_reducible refine below_drewN' ?_ _) | (with_reducible refine Below.drew ?_) | ((with_reducible refine Below.alloc ?_ ?_ _); rotate_left; focus (first | (simp; done) | (simp; omega) | omega)) | ((with_reducible refine Below.setCell ?_ ?_ _); rotate_left; focus (first | (simp; done) | (simp; omega) | omega))))) (by first | omega | (simp; done) | (simp; omega)) hb0))
    go_ret
    exact ⟨rfl, by (repeat (first | (with_reducible assumption) | (with_reducible exact Below.refl _ _) | (with_reducible refine below_drewN' ?_ _) | (with_reducible refine Below.drew ?_) | ((with_reducible refine Below.alloc ?_ ?_ _); rotate_left; focus (first | (simp; done) | (simp; omega) | omega)) | ((with_reducible refine Below.setCell ?_ ?_ _); rotate_left; focus (first | (simp; done) | (simp; omega) | omega))))⟩
  · have hbd : decide (4096 < n) = false := decide_eq_false hbig
    have HD := Lib.hid (fun (w' : World) (hb : Below w.heap.size w w') => DrawPlaceElements_any A n c bs w.heap.size w' (HR.out.below hb) hb.size (by omega))
    go_enter Try.func8, Try.ntmps8
    go_wp2_with first | (go_at_call 11; go_call (big_any _ _ _ _) as e0 w0 ⟨rfl, hb0⟩; obtain ⟨hc0, hf0⟩ := bcell hb0; have hB0 : Below w.heap.size w w0 := (below_then (by first | (go_grown; done) | (repeat (first | (with_reducible assumption) | (with_reducible exact Below.refl _ _) | (with_reducible refine below_drewN' ?_ _) | (with_reducible refine Below.drew ?_) | ((with_reducible refine Below.alloc ?_ ?_ _); rotate_left; focus (first | (simp; done) | (simp; omega) | omega)) | ((with_reducible refine Below.setCell ?_ ?_ _); rotate_left; focus (first | (simp; done) | (simp; omega) | omega))))) (by first | omega | (simp; done) | (simp; omega)) hb0))
    go_at_call 39
    with_reducible refine (HD.out _ hB0).mono ?_
    rintro e1 w1 ⟨u1, rfl, ⟨m, d, v, es, rfl, hel, ho1⟩, hb1⟩
    have HB1 := Lib.hid (hB0.trans (hb1.mono hB0.size))
    obtain ⟨A1, c1, rfl, hr1⟩ := ho1.shape
    obtain ⟨L, hL⟩ : ∃ L, es.length = L := ⟨_, rfl⟩
    rw [hL] at hel hr1 ⊢
    have HR1 := Lib.hid hr1
    have HL := Lib.hid hL
    have hle := peL_le m d es
    have P1 := fun (w : World) (B : Nat) (hr : RI w B A1 L es) (hB : B ≤ w.heap.size) => PlaceElements_any m d A1 L c1 es w B hr hB (by omega)
    have P2 := fun (w : World) (B : Nat) (hr : RI w B A1 L es) (hB : B ≤ w.heap.size) => sPlaceElements_any m d A1 L c1 es w B hr hB (by omega)
    have hpf := Lib.hid (fun h => placed_fact (m := m) (d := d) (es := es) h)
    generalize peL m d es = rs at hle P1 P2 hpf
    generalize peN m d es = N at P1 P2 hpf
    generalize peC m d es = C at P1 P2 hpf
    obtain ⟨T, hT⟩ : ∃ T, rs.length = T := ⟨_, rfl⟩
    rw [hT] at hle
    have HT := Lib.hid hT
    have HP1 := Lib.hid P1
    have HP2 := Lib.hid P2
    have h1 : (C != C) = false := by simp
    have hs1 := HB1.out.size
    clear hb0 hb1 hB0 hc0 hf0 P1 P2 hL hT hr1 ho1
    go_wp2_with fail
    go_at_call 20
    with_reducible refine (HP1.out _ _ HR1.out (Nat.le_refl _)).mono ?_
    rintro e2 w2 ⟨u2, rfl, ho2, hb2⟩
    obtain ⟨A2, c2, rfl, hr2⟩ := ho2.shape
    rw [HT.out] at hr2 ⊢
    have hs2 := hb2.size
    have HX2 : Hid ((w2.alloc (.cells #[.int .i64 N, .int .i64 N, .slice A2 T c2] 37)).heap[w2.heap.size]? = some (.cells #[.int .i64 N, .int .i64 N, .slice A2 T c2] 37 (0, 0))) := Lib.hid (heap_alloc_new _ _)
    have HR2 := Lib.hid (hr2.alloc (Nat.le_refl _) (.cells #[.int .i64 N, .int .i64 N, .slice A2 T c2] 37))
    have HR12 := Lib.hid ((HR1.out.below hb2).alloc hs2 (.cells #[.int .i64 N, .int .i64 N, .slice A2 T c2] 37))
    have HB2 := Lib.hid ((HB1.out.trans (hb2.mono hs1)).alloc (by omega) (.cells #[.int .i64 N, .int .i64 N, .slice A2 T c2] 37))
    clear ho2 hr2 hb2
    go_wp2_with fail
    go_at_call 18
    with_reducible refine (HP2.out _ _ HR12.out (by simp; omega)).mono ?_
    rintro e3 w3 ⟨u3, rfl, ho3, hb3⟩
    obtain ⟨A3, c3, rfl, hr3⟩ := ho3.shape
    rw [HT.out] at hr3 ⊢
    have hs3 := hb3.size
    simp only [World.size_alloc] at hs3
    have HX3 := Lib.hid (blk_alloc (u := .cells #[.int .i64 N, .int .i64 N, .slice A3 T c3] 37) (blk_below HX2.out hb3 (by simp)) (by omega))
    have HY3 : Hid ((w3.alloc (.cells #[.int .i64 N, .int .i64 N, .slice A3 T c3] 37)).heap[w3.heap.size]? = some (.cells #[.int .i64 N, .int .i64 N, .slice A3 T c3] 37 (0, 0))) := Lib.hid (heap_alloc_new _ _)
    have HR3 := Lib.hid (hr3.alloc (Nat.le_refl _) (.cells #[.int .i64 N, .int .i64 N, .slice A3 T c3] 37))
    have HR23 := Lib.hid ((HR2.out.below (hb3.mono (by simp))).alloc (by omega) (.cells #[.int .i64 N, .int .i64 N, .slice A3 T c3] 37))
    have HR13 := Lib.hid ((HR12.out.below (hb3.mono (by simp; omega))).alloc (by omega) (.cells #[.int .i64 N, .int .i64 N, .slice A3 T c3] 37))
    have HB3 := Lib.hid ((HB2.out.trans (hb3.mono (by simp; omega))).alloc (by omega) (.cells #[.int .i64 N, .int .i64 N, .slice A3 T c3] 37))
    clear ho3 hr3 hb3
    obtain ⟨a0, a1, a2, -⟩ := blk3 HX3.out
    obtain ⟨b0, b1, b2, -⟩ := blk3 HY3.out
    go_wp2_with fail
    go_at_call 40
    with_reducible refine (likeGrid_same N N A2 A3 T c2 c3 rs _ _ _ HR23.out HR3.out (by simp; omega) (by simp) (by omega)).mono ?_
    rintro e4 w4 ⟨rfl, hb4⟩
    have hs4 := hb4.size
    simp only [World.size_alloc] at hs4
    have HX4 := Lib.hid (blk_below HX3.out hb4 (by simp; omega))
    have HR24 := Lib.hid (HR23.out.below (hb4.mono (by simp; omega)))
    have HR14 := Lib.hid (HR13.out.below (hb4.mono (by simp; omega)))
    have HB4 := Lib.hid (HB3.out.trans (hb4.mono (by simp; omega)))
    clear hb4 a0 a1 a2 b0 b1 b2
    by_cases hC : C = 0
    · subst hC
      have hpo := hpf.out rfl
      have P3 := fun (w : World) (B : Nat) (hr : RI w B A2 T rs) (hB : B ≤ w.heap.size) => TakeElements_any N N A2 T c2 rs d w B hr hB (by omega)
      have P4 := fun (w : World) (B : Nat) (hr : RI w B A2 T rs) (hB : B ≤ w.heap.size) => FixedErrors_any N N A2 T c2 rs w B hr hB (by omega)
      rw [hpo.1, hpo.2.1, hpo.2.2.1] at P3
      rw [hpo.2.2.2.1, hpo.2.2.2.2] at P4
      have HP3 := Lib.hid P3
      have HP4 := Lib.hid P4
      obtain ⟨a0, a1, a2, -⟩ := blk3 HX4.out
      clear hpo P3 P4
      go_wp2_with fail
      go_at_call 36
      with_reducible refine (HP3.out _ _ HR24.out (by omega)).mono ?_
      rintro e5 w5 ⟨va, vb, rfl, hT5, hb5⟩
      obtain ⟨A5, c5, rfl, hr5⟩ := hT5.1.shape
      obtain ⟨A6, c6, rfl, -⟩ := hT5.2.1.shape
      rw [HL.out] at hr5 ⊢
      have hs5 := hb5.size
      have HR5 := Lib.hid hr5
      have HX5 := Lib.hid (blk_below HX4.out hb5 (by omega))
      have HR25 := Lib.hid (HR24.out.below (hb5.mono (by omega)))
      have HR15 := Lib.hid (HR14.out.below (hb5.mono (by omega)))
      have HB5 := Lib.hid (HB4.out.trans (hb5.mono (by omega)))
      clear hb5 hT5 hr5 a0 a1 a2
      obtain ⟨a0, a1, a2, -⟩ := blk3 HX5.out
      go_wp2_with fail
      go_at_call 41
      with_reducible refine (HP4.out _ _ HR25.out (by omega)).mono ?_
      rintro e6 w6 ⟨rfl, hb6⟩
      have hs6 := hb6.size
      have HR56 := Lib.hid (HR5.out.below hb6)
      have HR16 := Lib.hid (HR15.out.below (hb6.mono (by omega)))
      have HB6 := Lib.hid (HB5.out.trans (hb6.mono (by omega)))
      clear hb6 a0 a1 a2
      go_wp2_with fail
      go_at_call 42
      with_reducible refine (likeI_same A5 A1 L L c5 c1 es _ _ _ HR56.out HR16.out (by omega) (by omega)).mono ?_
      rintro e7 w7 ⟨rfl, hb7⟩
      have HB7 := Lib.hid (HB6.out.trans (hb7.mono (by omega)))
      clear hb7
      go_wp2_with fail
      go_ret
      exact ⟨by simp, HB7.out⟩
    · have hC' : (C != 0) = true := by simpa using hC
      go_wp2_with fail
      go_ret
      exact ⟨rfl, HB4.out⟩
set_option maxRecDepth 100000 in
theorem lifted_FnPlaced (os : Os) (started : os.Started) (H : Type) (enc : TypeId × Value → H) :
    ReturnsInHanded {} Try.checked os 8 .any (Rows.fnPlacedSpec.pre6 enc Try.prog Try.f8 Rows.fnPlacedRow.domain false) (Rows.fnPlacedSpec.post enc Try.prog Try.f8 false true false false) := by
  refine law_lifted (C := Try.checked) (tb := 4) own started (by kernel_rfl) Try.func8
    (ChangeSpec.witness6 (enc := enc) (C := Try.checked) false ⟨#[], #[.slice none 0 0], []⟩ 8 (by kernel_rfl) (by kernel_rfl) (by kernel_rfl) (by kernel_rfl))
    laidOut (by kernel_rfl) rfl rfl Try.underlying4 ?_ ?_
  · intro ds hd
    match ds, hd with
    | [e0], _ => rfl
  · intro W base args ds p hval hA hlt hsz
    have hval1 : ∀ (j : Nat) t v, Try.f8.params[j]? = some t → args[j]? = some v → Value.okWide Try.prog W .any base t v := hval
    have hA1 : DataW.TrodAll enc Try.prog W 0 (fun _ => true) true Try.f8.params.toList args.toList ds p := hA
    have hsz1 : (DataW.weightsEach Try.prog Try.f8.params.toList ds).all (· ≤ reachBytes) = true := hsz
    rw [Try.params8] at hval1 hA1 hsz1
    clear hval hA hsz
    obtain ⟨v0, d0, rfl, rfl, h0⟩ := trodAll_one hA1
    obtain ⟨A, n, c, bs, rfl, hr, _⟩ := arg_bytes Try.underlying22 Try.underlying5 (by kernel_rfl) (hval1 0 22 v0 rfl rfl) h0 (fun x hx => hlt x (by simp [hx]))
    exact lawFnPlaced A n c bs W hr
theorem holds_FnPlaced : Rows.FnPlacedSaid :=
  OpenClaim.holds_of_wide 8 Try.f8 rfl rfl rfl rfl rfl rfl rfl ⟨rfl, rfl, rfl, rfl, rfl⟩ rfl rfl rfl rfl rfl (by kernel_rfl) Try.func8 (by kernel_rfl)
    (of_decide_eq_true (by kernel_rfl)) (by unfold Func.isWrapper; first | (rw [if_pos (by decide +kernel)]; kernel_rfl) | (rw [if_neg (by decide +kernel)]; exact ⟨rfl, rfl⟩))
    (fun os started H enc _ => lifted_FnPlaced os started H enc)

end Go.Proofs.Yteghpageamehkaa
