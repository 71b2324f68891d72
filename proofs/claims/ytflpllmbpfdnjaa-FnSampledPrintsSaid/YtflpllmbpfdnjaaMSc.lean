/-
  Plain law: what the program's three ways of sampling answer at a printed grid and the map of its place. No program in sight.
-/
import Derived.Test.YtflpllmbpfdnjaaMSa
import Derived.Test.YtflpllmbpfdnjaaMSb
import Derived.Test.YtflpllmbpfdnjaaC25W
namespace Go.Proofs.Ytflpllmbpfdnjaa

theorem spt_div {Z m p q c : Nat} (hm : 0 < m) (hp : 0 < p) (h1 : c * m ≤ Z) (h2 : Z < (c + 1) * m) :
    c * p ≤ p * Z / m ∧ p * Z / m < (c + 1) * p ∧ (p * Z / m + q * p) / p = c + q := by
  have a1 : c * p ≤ p * Z / m := by
    rw [Nat.le_div_iff_mul_le hm]
    calc c * p * m = p * (c * m) := by ac_rfl
      _ ≤ p * Z := Nat.mul_le_mul_left p h1
  have a2 : p * Z / m < (c + 1) * p := by
    rw [Nat.div_lt_iff_lt_mul hm]
    calc p * Z < p * ((c + 1) * m) := Nat.mul_lt_mul_of_pos_left h2 hp
      _ = (c + 1) * p * m := by ac_rfl
  refine ⟨a1, a2, ?_⟩
  rw [Nat.add_mul_div_right _ _ hp]
  congr 1
  exact Nat.div_eq_of_lt_le a1 a2
theorem spt_img (C p q K x k m : Nat) (hm : 0 < m) (hk : 0 < k) (hK : 0 < K) : ((K * k * (2 * (p * (x * C)) + 2 * (q * p) * m) : Nat) : Int) / ((K * k * m : Nat) : Int) = ((2 * (p * (x * C)) / m + 2 * (q * p) : Nat) : Int) := by
  rw [← Int.natCast_ediv, Nat.mul_div_mul_left _ _ (Nat.mul_pos hK hk), Nat.add_mul_div_right _ _ hm]
theorem spt_x (C p q K x k m y : Nat) : imgI ((2 * C * p * K : Nat) : Int) 0 ((2 * q * p * K : Nat) : Int) ((x * k : Nat) : Int) ((y * m : Nat) : Int) ((m * k : Nat) : Int) = ((K * k * (2 * (p * (x * C)) + 2 * (q * p) * m) : Nat) : Int) := by
  unfold imgI
  rw [Int.zero_mul, Int.add_zero, ← Int.natCast_mul, ← Int.natCast_mul, ← Int.natCast_add]
  congr 1
  rw [Nat.mul_add]
  congr 1 <;> ac_rfl
theorem spt_y (R t q K x k m y : Nat) : imgI 0 ((2 * R * t * K : Nat) : Int) ((2 * q * t * K : Nat) : Int) ((x * k : Nat) : Int) ((y * m : Nat) : Int) ((m * k : Nat) : Int) = ((K * m * (2 * (t * (y * R)) + 2 * (q * t) * k) : Nat) : Int) := by
  unfold imgI
  rw [Int.zero_mul, Int.zero_add, ← Int.natCast_mul, ← Int.natCast_mul, ← Int.natCast_add]
  congr 1
  rw [Nat.mul_add]
  congr 1 <;> ac_rfl
theorem spt_w (K x k m y : Nat) : imgI 0 0 (K : Int) ((x * k : Nat) : Int) ((y * m : Nat) : Int) ((m * k : Nat) : Int) = ((K * k * m : Nat) : Int) := by
  unfold imgI
  rw [Int.zero_mul, Int.zero_mul, Int.zero_add, Int.zero_add, ← Int.natCast_mul]
  congr 1
  ac_rfl
theorem spt_half (Z m q : Nat) : (2 * Z / m + 2 * q) / 2 = Z / m + q := by
  rw [Nat.mul_comm 2 q, Nat.add_mul_div_right _ _ (by decide), Nat.div_div_eq_div_mul, Nat.mul_comm m 2, Nat.mul_div_mul_left _ _ (by decide)]
theorem spt_halfI (Z m q : Nat) : ((2 * Z / m + 2 * q : Nat) : Int) / 2 = ((Z / m + q : Nat) : Int) := by
  rw [show (2 : Int) = ((2 : Nat) : Int) from rfl, ← Int.natCast_ediv, spt_half]
theorem spt_spot {S T : Nat} (h1 : S ≤ 4000) (h2 : T ≤ 4000) : spotB (S : Int) (T : Int) = true := by
  unfold spotB inR; simp only [Bool.and_eq_true, decide_eq_true_eq]; omega
theorem spt_dark {d l : Int} (h : d < l) : greyV ((d + l + 1) / 2) 0 d = 1 := by
  unfold greyV; rw [if_neg (by omega), if_pos (by omega)]
theorem spt_light {d l : Int} (h : d < l) : greyV ((d + l + 1) / 2) 0 l = 0 := by
  unfold greyV; rw [if_neg (by omega), if_neg (by omega)]
/-- The sample at a point that lies in the module {r, c}. -/
theorem spt_take {R C p t q K r c x m y k : Nat} {d l : Int} {xs : List Int} (hp : 0 < p) (ht : 0 < t) (hK : 0 < K) (hm : 0 < m) (hk : 0 < k) (hr : r < R) (hc : c < C)
    (hx : x ≤ m) (hy : y ≤ k) (hX : 2 * C * p + 2 * (q * p) ≤ 4000) (hY : 2 * R * t + 2 * (q * t) ≤ 4000)
    (x1 : c * m ≤ x * C) (x2 : x * C < (c + 1) * m) (y1 : r * k ≤ y * R) (y2 : y * R < (r + 1) * k) (hdl : d < l)
    (hv : nth xs (r * C + c) = 0 ∨ nth xs (r * C + c) = 1) (M0 M2 M4 M5 M8 : Int) (e0 : M0 = ((2 * C * p * K : Nat) : Int)) (e2 : M2 = ((2 * q * p * K : Nat) : Int)) (e4 : M4 = ((2 * R * t * K : Nat) : Int)) (e5 : M5 = ((2 * q * t * K : Nat) : Int)) (e8 : M8 = (K : Int)) :
    tkF ((R + 2 * q) * t) ((C + 2 * q) * p) (grdL ((R + 2 * q) * t) ((C + 2 * q) * p) (pixV R C xs p t q d l)) M0 0 M2 0 M4 M5 0 0 M8 ((d + l + 1) / 2) 0 x m y k = nth xs (r * C + c) := by
  subst e0 e2 e4 e5 e8
  obtain ⟨a1, a2, a3⟩ := spt_div (q := q) hm hp x1 x2
  obtain ⟨b1, b2, b3⟩ := spt_div (q := q) hk ht y1 y2
  have hcol : p * (x * C) / m + q * p < (C + 2 * q) * p := by
    have := Nat.mul_le_mul_right p (show c + 1 ≤ C by omega)
    rw [Nat.add_mul, Nat.mul_assoc 2 q p]; omega
  have hrow : t * (y * R) / k + q * t < (R + 2 * q) * t := by
    have := Nat.mul_le_mul_right t (show r + 1 ≤ R by omega)
    rw [Nat.add_mul, Nat.mul_assoc 2 q t]; omega
  have s1 : 2 * (p * (x * C)) / m ≤ 2 * C * p := by
    refine Nat.div_le_of_le_mul ?_
    calc 2 * (p * (x * C)) = x * (2 * C * p) := by ac_rfl
      _ ≤ m * (2 * C * p) := Nat.mul_le_mul_right _ hx
  have s2 : 2 * (t * (y * R)) / k ≤ 2 * R * t := by
    refine Nat.div_le_of_le_mul ?_
    calc 2 * (t * (y * R)) = y * (2 * R * t) := by ac_rfl
      _ ≤ k * (2 * R * t) := Nat.mul_le_mul_right _ hy
  have hW : 0 < K * k * m := Nat.mul_pos (Nat.mul_pos hK hk) hm
  unfold tkF takeV
  rw [spt_x, spt_y, spt_w, spt_img C p q K x k m hm hk hK, show K * k * m = K * m * k by ac_rfl, spt_img R t q K y m k hk hm hK]
  have sx : 2 * (p * (x * C)) / m + 2 * (q * p) ≤ 4000 := Nat.le_trans (Nat.add_le_add_right s1 _) hX
  have sy : 2 * (t * (y * R)) / k + 2 * (q * t) ≤ 4000 := Nat.le_trans (Nat.add_le_add_right s2 _) hY
  have hsp := spt_spot sx sy
  have e1 := spt_halfI (p * (x * C)) m (q * p)
  have e2 := spt_halfI (t * (y * R)) k (q * t)
  rw [if_pos (by rw [show K * m * k = K * k * m by ac_rfl]; omega), if_pos hsp, e1, e2]
  have i1 : inR ((t * (y * R) / k + q * t : Nat) : Int) 0 ((((R + 2 * q) * t : Nat) : Int) - 1) = true := by unfold inR; simp only [Bool.and_eq_true, decide_eq_true_eq]; omega
  have i2 : inR ((p * (x * C) / m + q * p : Nat) : Int) 0 ((((C + 2 * q) * p : Nat) : Int) - 1) = true := by unfold inR; simp only [Bool.and_eq_true, decide_eq_true_eq]; omega
  rw [i1, i2]
  simp only [Bool.and_self, if_true, Int.toNat_natCast]
  rw [grdL_nth hrow hcol]
  unfold pixV
  rw [a3, b3, show (((r + q : Nat) : Int) - (q : Int)) = r by omega, show (((c + q : Nat) : Int) - (q : Int)) = c by omega]
  have hd : dkB R C xs r c = (nth xs (r * C + c) == 1) := by
    unfold dkB
    have j1 : inR (r : Int) 0 ((R : Int) - 1) = true := by unfold inR; simp only [Bool.and_eq_true, decide_eq_true_eq]; omega
    have j2 : inR (c : Int) 0 ((C : Int) - 1) = true := by unfold inR; simp only [Bool.and_eq_true, decide_eq_true_eq]; omega
    rw [j1, j2, show (r : Int) * C + c = ((r * C + c : Nat) : Int) by simp, Int.toNat_natCast]; rfl
  rw [hd]
  rcases hv with hv | hv
  · rw [hv]; exact spt_light hdl
  · rw [hv]; exact spt_dark hdl
end Go.Proofs.Ytflpllmbpfdnjaa
namespace Go.Proofs.Ytflpllmbpfdnjaa

theorem dvd_gcdL {d : Nat} {xs : List Int} (h : ∀ x ∈ xs, d ∣ x.natAbs) : d ∣ gcdL xs := by
  suffices H : ∀ (xs : List Int) (g : Nat), d ∣ g → (∀ x ∈ xs, d ∣ x.natAbs) → d ∣ xs.foldl (fun g x => Nat.gcd g x.natAbs) g by
    exact H xs 0 (Nat.dvd_zero d) h
  intro xs
  induction xs with
  | nil => intro g hg _; exact hg
  | cons x xs ih =>
    intro g hg hx
    exact ih _ (Nat.dvd_gcd hg (hx x (by simp))) (fun y hy => hx y (by simp [hy]))
theorem rect_E {L T W H : Int} : quadE L T (L + W) T L (T + H) (L - (L + W) + (L + W) - L) (T - T + (T + H) - (T + H)) (L + W - (L + W)) (T - (T + H)) (L - (L + W)) (T + H - (T + H)) =
    [W * -(W * H), 0, L * -(W * H), 0, H * -(W * H), T * -(W * H), 0, 0, -(W * H)] := by
  have h1 : L - (L + W) + (L + W) - L = 0 := by omega
  have h2 : T - T + (T + H) - (T + H) = 0 := by omega
  have h3 : L + W - (L + W) = 0 := by omega
  have h4 : T - (T + H) = -H := by omega
  have h5 : L - (L + W) = -W := by omega
  have h6 : T + H - (T + H) = 0 := by omega
  have h7 : L + W - L = W := by omega
  have h8 : T + H - T = H := by omega
  have h9 : (0 : Int) * 0 - -W * -H = -(W * H) := by rw [Int.neg_mul_neg]; simp
  unfold quadE
  rw [h1, h2, h3, h4, h5, h6, h7, h8, h9]
  simp
theorem rect_red {L T W H : Int} (hW : 0 < W) (hH : 0 < H) : redL [W * -(W * H), 0, L * -(W * H), 0, H * -(W * H), T * -(W * H), 0, 0, -(W * H)] = [W, 0, L, 0, H, T, 0, 0, 1] := by
  have hD : 0 < W * H := Int.mul_pos hW hH
  generalize W * H = D at *
  have g1 : gcdL [W * -D, 0, L * -D, 0, H * -D, T * -D, 0, 0, -D] = D.natAbs := by
    apply Nat.dvd_antisymm
    · have := gcdL_dvd (xs := [W * -D, 0, L * -D, 0, H * -D, T * -D, 0, 0, -D]) (-D) (by simp)
      have h2 := Int.natAbs_dvd_natAbs.2 this
      simpa using h2
    · apply dvd_gcdL
      intro x hx
      simp only [List.mem_cons, List.not_mem_nil, or_false] at hx
      rcases hx with rfl | rfl | rfl | rfl | rfl | rfl | rfl | rfl | rfl <;> simp [Int.natAbs_mul, Nat.dvd_mul_left]
  have g2 : sgL [W * -D, 0, L * -D, 0, H * -D, T * -D, 0, 0, -D] = -D := by
    unfold sgL
    rw [g1, if_pos (by show nth _ 8 < 0; simp [nth]; omega)]
    omega
  rw [redL_map (by rw [g1]; omega), g2]
  have z : ∀ x : Int, (x * -D).tdiv (-D) = x := fun x => Int.mul_tdiv_cancel _ (by omega)
  have o : (-D).tdiv (-D) = 1 := Int.tdiv_self (by omega)
  simp only [List.map_cons, List.map_nil, z, o, Int.zero_tdiv]
theorem mq_rect {L T W H : Int} (hW : 0 < W) (hH : 0 < H) (hok : mqC L T (L + W) T (L + W) (T + H) L (T + H) = 0) :
    mqL L T (L + W) T (L + W) (T + H) L (T + H) = [W, 0, L, 0, H, T, 0, 0, 1] ∧ L + W ≤ 4000 ∧ T + H ≤ 4000 := by
  have hq : quadB L T (L + W) T (L + W) (T + H) L (T + H) = true := by
    cases e : quadB L T (L + W) T (L + W) (T + H) L (T + H)
    · rw [(mq_no e).1] at hok; simp at hok
    · rfl
  obtain ⟨-, h2⟩ := mq_yes hq
  obtain ⟨-, -, hc, -, -⟩ := quadB_true hq
  have := spotB_true hc
  rw [h2, rect_E, rect_red hW hH]
  exact ⟨rfl, this.2.1, this.2.2.2⟩
theorem rect_map {L T W H : Int} (h1 : 0 ≤ L ∧ L ≤ 4000) (h2 : 0 ≤ T ∧ T ≤ 4000) (h3 : 0 ≤ W ∧ W ≤ 4000) (h4 : 0 ≤ H ∧ H ≤ 4000) : isMapB [W, 0, L, 0, H, T, 0, 0, 1] = true := by
  have g : gcdL [W, 0, L, 0, H, T, 0, 0, 1] = 1 := by
    rw [show ([W, 0, L, 0, H, T, 0, 0, 1] : List Int) = [W, 0, L, 0, H, T, 0, 0] ++ [1] from rfl, gcdL_snoc]
    exact Nat.gcd_one_right _
  unfold isMapB inAll
  rw [g]
  simp [inR, nth]
  omega
theorem grdL_eq {R C : Nat} {f : Nat → Nat → Int} {xs : List Int} (hl : xs.length = R * C) (h : ∀ r c, r < R → c < C → f r c = nth xs (r * C + c)) : grdL R C f = xs := by
  apply List.ext_getElem
  · rw [grdL_len, hl]
  · intro i h1 h2
    rw [grdL_len] at h1
    obtain ⟨d1, d2⟩ := div_lt2 h1
    have := h _ _ d1 d2
    simp only [grdL, List.getElem_map, List.getElem_range]
    rw [this, Nat.div_add_mod' i C, nth_lt h2]
theorem vote5 {v : Int} (h : v = 0 ∨ v = 1) : voteV [v, v, v, v, v] = v := by rcases h with rfl | rfl <;> rfl
theorem vote3 {v : Int} (h : v = 0 ∨ v = 1) : voteV [v, v, v] = v := by rcases h with rfl | rfl <;> rfl
/-- All samples of a printed grid. -/
theorem spu_all {R C p t q : Nat} {d l : Int} {xs : List Int} (hl : xs.length = R * C) (hv : ∀ k, k < xs.length → nth xs k = 0 ∨ nth xs k = 1) (hp : 0 < p) (ht : 0 < t) (hdl : d < l) (hX : 2 * C * p + 2 * (q * p) ≤ 4000) (hY : 2 * R * t + 2 * (q * t) ≤ 4000)
    (M0 M2 M4 M5 : Int) (e0 : M0 = ((2 * C * p : Nat) : Int)) (e2 : M2 = ((2 * q * p : Nat) : Int)) (e4 : M4 = ((2 * R * t : Nat) : Int)) (e5 : M5 = ((2 * q * t : Nat) : Int)) :
    (grdL R C fun i j => samV ((R + 2 * q) * t) ((C + 2 * q) * p) (grdL ((R + 2 * q) * t) ((C + 2 * q) * p) (pixV R C xs p t q d l)) M0 0 M2 0 M4 M5 0 0 1 R C ((d + l + 1) / 2) 0 i j) = xs ∧
    (grdL R C fun i j => voteV (fivL (samV ((R + 2 * q) * t) ((C + 2 * q) * p) (grdL ((R + 2 * q) * t) ((C + 2 * q) * p) (pixV R C xs p t q d l)) M0 0 M2 0 M4 M5 0 0 1 R C ((d + l + 1) / 2) 0 i j) (tkF ((R + 2 * q) * t) ((C + 2 * q) * p) (grdL ((R + 2 * q) * t) ((C + 2 * q) * p) (pixV R C xs p t q d l)) M0 0 M2 0 M4 M5 0 0 1 ((d + l + 1) / 2) 0) R C i j)) = xs ∧
    (grdL R C fun i j => voteV (stkL (tkF ((R + 2 * q) * t) ((C + 2 * q) * p) (grdL ((R + 2 * q) * t) ((C + 2 * q) * p) (pixV R C xs p t q d l)) M0 0 M2 0 M4 M5 0 0 1 ((d + l + 1) / 2) 0) R C 3 i j)) = xs := by
  have key : ∀ r c x m y k : Nat, r < R → c < C → 0 < m → 0 < k → x ≤ m → y ≤ k → c * m ≤ x * C → x * C < (c + 1) * m → r * k ≤ y * R → y * R < (r + 1) * k →
      tkF ((R + 2 * q) * t) ((C + 2 * q) * p) (grdL ((R + 2 * q) * t) ((C + 2 * q) * p) (pixV R C xs p t q d l)) M0 0 M2 0 M4 M5 0 0 1 ((d + l + 1) / 2) 0 x m y k = nth xs (r * C + c) := fun r c x m y k hr hc hm hk hx hy x1 x2 y1 y2 =>
    spt_take (K := 1) hp ht (by decide) hm hk hr hc hx hy hX hY x1 x2 y1 y2 hdl (hv _ (by rw [hl]; exact cell_lt2 hr hc)) M0 M2 M4 M5 1 (by rw [e0, Nat.mul_one]) (by rw [e2, Nat.mul_one]) (by rw [e4, Nat.mul_one]) (by rw [e5, Nat.mul_one]) rfl
  generalize hTK : tkF ((R + 2 * q) * t) ((C + 2 * q) * p) (grdL ((R + 2 * q) * t) ((C + 2 * q) * p) (pixV R C xs p t q d l)) M0 0 M2 0 M4 M5 0 0 1 ((d + l + 1) / 2) 0 = TK at key
  have hmid : ∀ r c : Nat, samV ((R + 2 * q) * t) ((C + 2 * q) * p) (grdL ((R + 2 * q) * t) ((C + 2 * q) * p) (pixV R C xs p t q d l)) M0 0 M2 0 M4 M5 0 0 1 R C ((d + l + 1) / 2) 0 r c = TK (2 * c + 1) (2 * C) (2 * r + 1) (2 * R) := fun r c => by rw [← hTK]; rfl
  have ax : ∀ {c n a b : Nat}, c < n → 0 < b → a < b → (c * (b * n) ≤ (b * c + a) * n ∧ (b * c + a) * n < (c + 1) * (b * n)) ∧ b * c + a ≤ b * n ∧ 0 < b * n := by
    intro c n a b hc hb ha
    have h1 : c * (b * n) = b * c * n := by ac_rfl
    have h2 : (b * c + a) * n = b * c * n + a * n := Nat.add_mul _ _ _
    have h3 : (c + 1) * (b * n) = b * c * n + b * n := by rw [Nat.add_mul, h1, Nat.one_mul]
    have h4 : a * n < b * n := Nat.mul_lt_mul_of_pos_right ha (by omega)
    have h5 : b * (c + 1) ≤ b * n := Nat.mul_le_mul_left b hc
    rw [Nat.mul_add] at h5
    have h6 : 0 < b * n := Nat.mul_pos hb (by omega)
    omega
  have mid : ∀ r c, r < R → c < C → TK (2 * c + 1) (2 * C) (2 * r + 1) (2 * R) = nth xs (r * C + c) := fun r c hr hc => by
    obtain ⟨⟨a1, a2⟩, a3, a4⟩ := ax (a := 1) (b := 2) hc (by decide) (by decide)
    obtain ⟨⟨b1, b2⟩, b3, b4⟩ := ax (a := 1) (b := 2) hr (by decide) (by decide)
    exact key r c _ _ _ _ hr hc a4 b4 a3 b3 a1 a2 b1 b2
  have four : ∀ r c a b, r < R → c < C → a < 4 → b < 4 → TK (4 * c + a) (4 * C) (4 * r + b) (4 * R) = nth xs (r * C + c) := fun r c a b hr hc ha hb => by
    obtain ⟨⟨a1, a2⟩, a3, a4⟩ := ax (a := a) (b := 4) hc (by decide) ha
    obtain ⟨⟨b1, b2⟩, b3, b4⟩ := ax (a := b) (b := 4) hr (by decide) hb
    exact key r c _ _ _ _ hr hc a4 b4 a3 b3 a1 a2 b1 b2
  have lines : ∀ r c j, r < R → c < C → j < 3 → TK (2 * c + 1) (2 * C) (2 * (r * 3 + j) + 1) (2 * R * 3) = nth xs (r * C + c) := fun r c j hr hc hj => by
    obtain ⟨⟨a1, a2⟩, a3, a4⟩ := ax (a := 1) (b := 2) hc (by decide) (by decide)
    obtain ⟨⟨b1, b2⟩, b3, b4⟩ := ax (a := 2 * j + 1) (b := 6) hr (by decide) (by omega)
    rw [show 2 * (r * 3 + j) + 1 = 6 * r + (2 * j + 1) by omega, show 2 * R * 3 = 6 * R by omega]
    exact key r c _ _ _ _ hr hc a4 b4 a3 b3 a1 a2 b1 b2
  refine ⟨grdL_eq hl fun r c hr hc => ?_, grdL_eq hl fun r c hr hc => ?_, grdL_eq hl fun r c hr hc => ?_⟩
  · rw [hmid]; exact mid r c hr hc
  · show voteV (fivL (samV _ _ _ M0 0 M2 0 M4 M5 0 0 1 R C _ 0 r c) _ R C r c) = _
    rw [hmid, mid r c hr hc]
    unfold fivL
    rw [four r c 1 1 hr hc (by decide) (by decide), four r c 3 1 hr hc (by decide) (by decide), four r c 1 3 hr hc (by decide) (by decide), four r c 3 3 hr hc (by decide) (by decide)]
    exact vote5 (hv _ (by rw [hl]; exact cell_lt2 hr hc))
  · show voteV (stkL _ R C 3 r c) = _
    rw [show stkL TK R C 3 r c = [TK (2 * c + 1) (2 * C) (2 * (r * 3 + 0) + 1) (2 * R * 3), TK (2 * c + 1) (2 * C) (2 * (r * 3 + 1) + 1) (2 * R * 3), TK (2 * c + 1) (2 * C) (2 * (r * 3 + 2) + 1) (2 * R * 3)] from rfl, lines r c 0 hr hc (by decide), lines r c 1 hr hc (by decide), lines r c 2 hr hc (by decide)]
    exact vote3 (hv _ (by rw [hl]; exact cell_lt2 hr hc))
end Go.Proofs.Ytflpllmbpfdnjaa
namespace Go.Proofs.Ytflpllmbpfdnjaa

theorem prK_0 {r c : Int} {xs : List Int} {p t q d l : Int} (h : prK r c xs p t q d l = 0) : gridB r c xs = true ∧ prnB p t q 0 d l = true ∧ posB xs = true ∧ psK r c p t q 0 d l = 0 := by
  unfold prK at h
  split at h
  · split at h
    · split at h
      · exact ⟨by assumption, by assumption, by assumption, h⟩
      · simp at h
    · simp at h
  · simp at h
theorem pix_in {R C : Int} {xs : List Int} {p t q : Nat} {d l : Int} {a b : Nat} (h1 : 0 ≤ d) (h2 : d < l) (h3 : l ≤ 255) : allIn 0 255 (grdL a b (pixV R C xs p t q d l)) = true := by
  unfold allIn
  rw [List.all_eq_true]
  intro x hx
  unfold grdL at hx
  rw [List.mem_map] at hx
  obtain ⟨i, -, rfl⟩ := hx
  unfold pixV
  split
  · exact inR_of ⟨h1, by omega⟩
  · exact inR_of ⟨by omega, h3⟩
theorem spv_good {r c p t q d l LM PH PV m0 m1 m2 m3 m4 m5 m6 m7 m8 : Int} {xs PL : List Int} (hK : prK r c xs p t q d l = 0) (hPH : gK (prK r c xs p t q d l) ((r + 2 * q) * t) = PH) (hPV : gK (prK r c xs p t q d l) ((c + 2 * q) * p) = PV) (hPL : prL r c xs p t q d l = PL)
    (hC : mqC (2 * q * p) (2 * q * t) (2 * q * p + 2 * c * p) (2 * q * t) (2 * q * p + 2 * c * p) (2 * q * t + 2 * r * t) (2 * q * p) (2 * q * t + 2 * r * t) = 0)
    (hm : mqL (2 * q * p) (2 * q * t) (2 * q * p + 2 * c * p) (2 * q * t) (2 * q * p + 2 * c * p) (2 * q * t + 2 * r * t) (2 * q * p) (2 * q * t + 2 * r * t) = [m0, m1, m2, m3, m4, m5, m6, m7, m8]) (hLM : (d + l + 1) / 2 = LM) (hs : isSamplingB r c LM 0 = true) :
    (SampleMap_K PH PV PL m0 m1 m2 m3 m4 m5 m6 m7 m8 r c LM 0 = 0 ∧ SampleMap_L PH PV PL m0 m1 m2 m3 m4 m5 m6 m7 m8 r c LM 0 = xs) ∧ (SampleFive_K PH PV PL m0 m1 m2 m3 m4 m5 m6 m7 m8 r c LM 0 = 0 ∧ SampleFive_L PH PV PL m0 m1 m2 m3 m4 m5 m6 m7 m8 r c LM 0 = xs) ∧
    (SampleStack_K PH PV PL m0 m1 m2 m3 m4 m5 m6 m7 m8 r c LM 0 3 = 0 ∧ SampleStack_L PH PV PL m0 m1 m2 m3 m4 m5 m6 m7 m8 r c LM 0 3 = xs) := by
  obtain ⟨g1, g2, g3, g4⟩ := prK_0 hK
  obtain ⟨y1, y2, y3, y4, y5⟩ := gridB_true g1
  obtain ⟨x1, x2, x3, x4, x5, x6, x7⟩ := prnB_true g2
  obtain ⟨b1, b2, b3⟩ := psK_0 g4
  obtain ⟨R, rfl⟩ := Int.eq_ofNat_of_zero_le (show 0 ≤ r by omega)
  obtain ⟨C, rfl⟩ := Int.eq_ofNat_of_zero_le (show 0 ≤ c by omega)
  obtain ⟨P, rfl⟩ := Int.eq_ofNat_of_zero_le (show 0 ≤ p by omega)
  obtain ⟨T, rfl⟩ := Int.eq_ofNat_of_zero_le (show 0 ≤ t by omega)
  obtain ⟨Q, rfl⟩ := Int.eq_ofNat_of_zero_le (show 0 ≤ q by omega)
  have hP : 0 < P := by omega
  have hT : 0 < T := by omega
  have hRp : 0 < R := by omega
  have hCp : 0 < C := by omega
  have eH : ((R : Int) + 2 * (Q : Int)) * (T : Int) = (((R + 2 * Q) * T : Nat) : Int) := by simp
  have eV : ((C : Int) + 2 * (Q : Int)) * (P : Int) = (((C + 2 * Q) * P : Nat) : Int) := by simp
  have eL : 2 * (Q : Int) * (P : Int) = ((2 * Q * P : Nat) : Int) := by simp
  have eT : 2 * (Q : Int) * (T : Int) = ((2 * Q * T : Nat) : Int) := by simp
  have eW : 2 * (C : Int) * (P : Int) = ((2 * C * P : Nat) : Int) := by simp
  have eG : 2 * (R : Int) * (T : Int) = ((2 * R * T : Nat) : Int) := by simp
  have hWp : 0 < 2 * C * P := Nat.mul_pos (by omega) hP
  have hGp : 0 < 2 * R * T := Nat.mul_pos (by omega) hT
  have hpl := hPL
  unfold prL at hpl
  rw [if_pos hK, eH, eV] at hpl
  rw [hK, gK_0, eH] at hPH
  rw [hK, gK_0, eV] at hPV
  rw [eH, eV] at b3
  rw [eL, eT, eW, eG] at hC hm
  obtain ⟨q1, q2, q3⟩ := mq_rect (L := ((2 * Q * P : Nat) : Int)) (T := ((2 * Q * T : Nat) : Int)) (W := ((2 * C * P : Nat) : Int)) (H := ((2 * R * T : Nat) : Int)) (by omega) (by omega) hC
  rw [q1] at hm
  simp only [List.cons.injEq, and_true] at hm
  obtain ⟨rfl, rfl, rfl, rfl, rfl, rfl, rfl, rfl, rfl⟩ := hm
  subst hPH hPV
  simp only [Int.toNat_natCast] at hpl
  have hl : xs.length = R * C := by rw [← Int.natCast_mul] at y4; omega
  have hv : ∀ k, k < xs.length → nth xs k = 0 ∨ nth xs k = 1 := fun k hk => by
    have a := allIn_nth y5 hk
    have b := posB_nth g3 hk
    omega
  have hmap := rect_map (L := ((2 * Q * P : Nat) : Int)) (T := ((2 * Q * T : Nat) : Int)) (W := ((2 * C * P : Nat) : Int)) (H := ((2 * R * T : Nat) : Int)) (by omega) (by omega) (by omega) (by omega)
  have hras : rasB (((R + 2 * Q) * T : Nat) : Int) (((C + 2 * Q) * P : Nat) : Int) PL = true := by
    unfold rasB
    rw [b3, ← hpl, pix_in x5 x6 x7, grdL_len]
    simp
  have hsm : smpB (((R + 2 * Q) * T : Nat) : Int) (((C + 2 * Q) * P : Nat) : Int) PL ((2 * C * P : Nat) : Int) 0 ((2 * Q * P : Nat) : Int) 0 ((2 * R * T : Nat) : Int) ((2 * Q * T : Nat) : Int) 0 0 1 R C LM 0 = true := by
    unfold smpB; rw [hras, hmap, hs]; rfl
  have hX : 2 * C * P + 2 * (Q * P) ≤ 4000 := by rw [← Nat.mul_assoc]; omega
  have hY : 2 * R * T + 2 * (Q * T) ≤ 4000 := by rw [← Nat.mul_assoc]; omega
  obtain ⟨a1, a2, a3⟩ := spu_all (R := R) (C := C) (p := P) (t := T) (q := Q) (d := d) (l := l) hl hv hP hT x6 hX hY _ _ _ _ rfl rfl rfl rfl
  rw [hpl, hLM] at a1 a2 a3
  have i3 : inR 3 1 7 = true := rfl
  refine ⟨⟨?_, ?_⟩, ⟨?_, ?_⟩, ?_, ?_⟩
  · unfold SampleMap_K; rw [if_pos hsm]
  · unfold SampleMap_L; rw [if_pos hsm]; simp only [Int.toNat_natCast]; exact a1
  · unfold SampleFive_K; rw [if_pos hsm]
  · unfold SampleFive_L; rw [if_pos hsm]; simp only [Int.toNat_natCast]; exact a2
  · unfold SampleStack_K; rw [if_pos hsm, i3, if_pos rfl]
  · unfold SampleStack_L; rw [if_pos hsm, i3, if_pos rfl]; simp only [Int.toNat_natCast]; exact a3
end Go.Proofs.Ytflpllmbpfdnjaa
