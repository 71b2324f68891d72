/-
  Plain numbers: the map of a quad takes the corners of the unit square back to the quad; when it is affine. No program in sight.
-/
import Derived.Test.YtnhhbpdjapccpaaDoorC25W
namespace Go.Proofs.YtnhhbpdjapccpaaDoor
open Go.RowKit

theorem gcdF_mul (s : Int) : ∀ (xs : List Int) (g : Nat), (xs.map (fun t => s * t)).foldl (fun g x => Nat.gcd g x.natAbs) (s.natAbs * g) = s.natAbs * xs.foldl (fun g x => Nat.gcd g x.natAbs) g := by
  intro xs
  induction xs with
  | nil => intro g; rfl
  | cons x xs ih =>
    intro g
    simp only [List.map_cons, List.foldl_cons]
    rw [Int.natAbs_mul, Nat.gcd_mul_left, ih]
theorem gcdL_mul (s : Int) (xs : List Int) : gcdL (xs.map (fun t => s * t)) = s.natAbs * gcdL xs := by
  have := gcdF_mul s xs 0
  rwa [Nat.mul_zero] at this
theorem cancel_s {s x y : Int} (hs : s ≠ 0) (h : s * x = s * y) : x = y := Int.eq_of_mul_eq_mul_left hs h
theorem cancel_neg {s x : Int} (hs : s < 0) (h : s * x < 0) : 0 < x := by
  rcases Int.lt_trichotomy x 0 with h1 | h1 | h1
  · have := Int.mul_pos_of_neg_of_neg hs h1; omega
  · rw [h1, Int.mul_zero] at h; omega
  · exact h1
theorem quadB_all {ax ay bx bY cx cy dx dy : Int} (h : quadB ax ay bx bY cx cy dx dy = true) :
    0 < turnI ax ay bx bY cx cy ∧ 0 < turnI bx bY cx cy dx dy ∧ 0 < turnI cx cy dx dy ax ay ∧ 0 < turnI dx dy ax ay bx bY := by
  obtain ⟨h1, h2, h3, h4, -⟩ := quadB_true h
  rw [quadB_ok h1 h2 h3 h4] at h
  simp at h
  exact ⟨h.1.1.1, h.1.1.2, h.1.2, h.2⟩
theorem spot_rg {x y : Int} (h : spotB x y = true) : (-4000 ≤ x ∧ x ≤ 4000) ∧ (-4000 ≤ y ∧ y ≤ 4000) := by
  unfold spotB at h
  rw [Bool.and_eq_true] at h
  exact ⟨inR_true h.1, inR_true h.2⟩
theorem ent_rg {s t x : Int} (hs : s < 0) (h : x = s * t) (h1 : -10000000000000 ≤ x) (h2 : x ≤ 10000000000000) : -10000000000000 ≤ t ∧ t ≤ 10000000000000 := by
  have e : x.natAbs = s.natAbs * t.natAbs := by rw [h, Int.natAbs_mul]
  have := Nat.le_mul_of_pos_left t.natAbs (show 0 < s.natAbs by omega)
  omega
/-- The entries of the reduced map, by the corners. -/
structure MapOf (ax ay bx bY cx cy dx dy a b c d e f g h i : Int) : Prop where
  ok : isMapB [a, b, c, d, e, f, g, h, i] = true
  i0 : 0 < i
  g0 : 0 < g + i
  h0 : 0 < h + i
  s0 : 0 < g + h + i
  ec : c = ax * i
  ef : f = ay * i
  ea : a + c = bx * (g + i)
  ed : d + f = bY * (g + i)
  eb : b + c = dx * (h + i)
  ee : e + f = dy * (h + i)
  es : a + b + c = cx * (g + h + i)
  et : d + e + f = cy * (g + h + i)
  fl : (g = 0 ∧ h = 0) ↔ (ax - bx + cx - dx = 0 ∧ ay - bY + cy - dy = 0)
theorem map_of {ax ay bx bY cx cy dx dy : Int} (h : quadB ax ay bx bY cx cy dx dy = true) :
    MapOf ax ay bx bY cx cy dx dy (nth (mqL ax ay bx bY cx cy dx dy) 0) (nth (mqL ax ay bx bY cx cy dx dy) 1) (nth (mqL ax ay bx bY cx cy dx dy) 2) (nth (mqL ax ay bx bY cx cy dx dy) 3) (nth (mqL ax ay bx bY cx cy dx dy) 4) (nth (mqL ax ay bx bY cx cy dx dy) 5) (nth (mqL ax ay bx bY cx cy dx dy) 6) (nth (mqL ax ay bx bY cx cy dx dy) 7) (nth (mqL ax ay bx bY cx cy dx dy) 8) := by
  obtain ⟨t1, t2, t3, t4⟩ := quadB_all h
  obtain ⟨sa, sb, sc, sd, -⟩ := quadB_true h
  rw [(mq_yes h).2]
  have hdt := det_turn bx bY cx cy dx dy
  obtain ⟨E, hE⟩ : ∃ E, quadE ax ay bx bY dx dy (ax - bx + cx - dx) (ay - bY + cy - dy) (bx - cx) (bY - cy) (dx - cx) (dy - cy) = E := ⟨_, rfl⟩
  rw [hE]
  have hlen : E.length = 9 := by rw [← hE]; rfl
  have hlast : nth E 8 < 0 := by rw [← hE]; show (bx - cx) * (dy - cy) - (dx - cx) * (bY - cy) < 0; omega
  have hmem : nth E 8 ∈ E := nth_mem (by omega)
  have hg0 : 0 < gcdL E := by
    rcases Nat.eq_zero_or_pos (gcdL E) with h0 | h0
    · have := gcdL_dvd _ hmem
      rw [h0] at this
      have := Int.zero_dvd.1 this
      omega
    · exact h0
  obtain ⟨s, hs⟩ : ∃ s, sgL E = s := ⟨_, rfl⟩
  have hsv : s = -(gcdL E : Int) := by rw [← hs]; unfold sgL; rw [hlen, if_pos hlast]
  have hsn : s < 0 := by omega
  have hs0 : s ≠ 0 := by omega
  obtain ⟨T, hT⟩ : ∃ T, redL E = T := ⟨_, rfl⟩
  have hTl : T.length = 9 := by rw [← hT, redL_len, hlen]
  have hk : ∀ k, k < 9 → nth E k = s * nth T k := by
    intro k hk
    have h1 := redL_nth hg0 (k := k) (by omega)
    rw [hT, hs] at h1
    have hd : s ∣ nth E k := by
      rw [hsv]
      exact Int.neg_dvd.2 (gcdL_dvd _ (nth_mem (by omega)))
    rw [h1, Int.mul_tdiv_cancel' hd]
  have hET : E = T.map (fun t => s * t) := by
    refine ext_nth (by rw [List.length_map, hlen, hTl]) (fun k hk' => ?_)
    rw [hk k (by omega), nth_lt (xs := T) (by omega), nth_lt (xs := T.map _) (by rw [List.length_map]; omega), List.getElem_map]
  have hgT : gcdL T = 1 := by
    have h1 := gcdL_mul s T
    rw [← hET, show s.natAbs = gcdL E by omega] at h1
    have h2 : gcdL E * gcdL T = gcdL E * 1 := by omega
    exact Nat.eq_of_mul_eq_mul_left hg0 h2
  rw [hT]
  clear hT
  have e0 := hk 0 (by omega)
  have e1 := hk 1 (by omega)
  have e2 := hk 2 (by omega)
  have e3 := hk 3 (by omega)
  have e4 := hk 4 (by omega)
  have e5 := hk 5 (by omega)
  have e6 := hk 6 (by omega)
  have e7 := hk 7 (by omega)
  have e8 := hk 8 (by omega)
  clear hk hET
  have hTn : T = [nth T 0, nth T 1, nth T 2, nth T 3, nth T 4, nth T 5, nth T 6, nth T 7, nth T 8] := by
    match T, hTl with
    | [_, _, _, _, _, _, _, _, _], _ => rfl
  rw [hTn] at hgT
  generalize nth T 0 = a at *
  generalize nth T 1 = b at *
  generalize nth T 2 = c at *
  generalize nth T 3 = d at *
  generalize nth T 4 = e at *
  generalize nth T 5 = f at *
  generalize nth T 6 = g at *
  generalize nth T 7 = h at *
  generalize nth T 8 = i at *
  clear hTn hTl
  rw [← hE] at e0 e1 e2 e3 e4 e5 e6 e7 e8
  simp only [quadE, nth, List.getD_cons_zero, List.getD_cons_succ] at e0 e1 e2 e3 e4 e5 e6 e7 e8
  unfold turnI at t1 t2 t3 t4
  clear hE hlast hmem hdt hlen hg0 hs hsv
  obtain ⟨rA1, rA2⟩ := spot_rg sa
  obtain ⟨rB1, rB2⟩ := spot_rg sb
  obtain ⟨rC1, rC2⟩ := spot_rg sc
  obtain ⟨rD1, rD2⟩ := spot_rg sd
  obtain ⟨p1, p2, p3, p4, p5, p6⟩ := quad_pr (sx := ax - bx + cx - dx) (sy := ay - bY + cy - dy) (ox := bx - cx) (oy := bY - cy) (tx := dx - cx) (ty := dy - cy) (by omega) (by omega) (by omega) (by omega) (by omega) (by omega)
  have kI : (bx - cx) * (dy - cy) - (dx - cx) * (bY - cy) = -((cx - bx) * (dy - cy) - (cy - bY) * (dx - cx)) := by grind
  have kG : (ax - bx + cx - dx) * (dy - cy) - (dx - cx) * (ay - bY + cy - dy) + ((bx - cx) * (dy - cy) - (dx - cx) * (bY - cy)) = -((dx - cx) * (ay - dy) - (dy - cy) * (ax - dx)) := by grind
  have kH : (bx - cx) * (ay - bY + cy - dy) - (ax - bx + cx - dx) * (bY - cy) + ((bx - cx) * (dy - cy) - (dx - cx) * (bY - cy)) = -((bx - ax) * (cy - bY) - (bY - ay) * (cx - bx)) := by grind
  have kS : (ax - bx + cx - dx) * (dy - cy) - (dx - cx) * (ay - bY + cy - dy) + ((bx - cx) * (ay - bY + cy - dy) - (ax - bx + cx - dx) * (bY - cy)) + ((bx - cx) * (dy - cy) - (dx - cx) * (bY - cy)) = -((ax - dx) * (bY - ay) - (ay - dy) * (bx - ax)) := by grind
  have kX : (bx - ax) * ((bx - cx) * (dy - cy) - (dx - cx) * (bY - cy)) + ((ax - bx + cx - dx) * (dy - cy) - (dx - cx) * (ay - bY + cy - dy)) * bx + ((dx - ax) * ((bx - cx) * (dy - cy) - (dx - cx) * (bY - cy)) + ((bx - cx) * (ay - bY + cy - dy) - (ax - bx + cx - dx) * (bY - cy)) * dx) + ax * ((bx - cx) * (dy - cy) - (dx - cx) * (bY - cy)) = cx * ((ax - bx + cx - dx) * (dy - cy) - (dx - cx) * (ay - bY + cy - dy) + ((bx - cx) * (ay - bY + cy - dy) - (ax - bx + cx - dx) * (bY - cy)) + ((bx - cx) * (dy - cy) - (dx - cx) * (bY - cy))) := by grind
  have kY : (bY - ay) * ((bx - cx) * (dy - cy) - (dx - cx) * (bY - cy)) + ((ax - bx + cx - dx) * (dy - cy) - (dx - cx) * (ay - bY + cy - dy)) * bY + ((dy - ay) * ((bx - cx) * (dy - cy) - (dx - cx) * (bY - cy)) + ((bx - cx) * (ay - bY + cy - dy) - (ax - bx + cx - dx) * (bY - cy)) * dy) + ay * ((bx - cx) * (dy - cy) - (dx - cx) * (bY - cy)) = cy * ((ax - bx + cx - dx) * (dy - cy) - (dx - cx) * (ay - bY + cy - dy) + ((bx - cx) * (ay - bY + cy - dy) - (ax - bx + cx - dx) * (bY - cy)) + ((bx - cx) * (dy - cy) - (dx - cx) * (bY - cy))) := by grind
  have kF1 : (ax - bx + cx - dx) * ((bx - cx) * (dy - cy) - (dx - cx) * (bY - cy)) = (bx - cx) * ((ax - bx + cx - dx) * (dy - cy) - (dx - cx) * (ay - bY + cy - dy)) + (dx - cx) * ((bx - cx) * (ay - bY + cy - dy) - (ax - bx + cx - dx) * (bY - cy)) := by grind
  have kF2 : (ay - bY + cy - dy) * ((bx - cx) * (dy - cy) - (dx - cx) * (bY - cy)) = (bY - cy) * ((ax - bx + cx - dx) * (dy - cy) - (dx - cx) * (ay - bY + cy - dy)) + (dy - cy) * ((bx - cx) * (ay - bY + cy - dy) - (ax - bx + cx - dx) * (bY - cy)) := by grind
  have kZ : ax - bx + cx - dx = 0 → ay - bY + cy - dy = 0 → (ax - bx + cx - dx) * (dy - cy) - (dx - cx) * (ay - bY + cy - dy) = 0 ∧ (bx - cx) * (ay - bY + cy - dy) - (ax - bx + cx - dx) * (bY - cy) = 0 := by
    intro z1 z2
    rw [z1, z2]
    simp
  have bI : -256000000 ≤ (bx - cx) * (dy - cy) - (dx - cx) * (bY - cy) ∧ (bx - cx) * (dy - cy) - (dx - cx) * (bY - cy) ≤ 256000000 := by omega
  have bG : -256000000 ≤ (ax - bx + cx - dx) * (dy - cy) - (dx - cx) * (ay - bY + cy - dy) ∧ (ax - bx + cx - dx) * (dy - cy) - (dx - cx) * (ay - bY + cy - dy) ≤ 256000000 := by omega
  have bH : -256000000 ≤ (bx - cx) * (ay - bY + cy - dy) - (ax - bx + cx - dx) * (bY - cy) ∧ (bx - cx) * (ay - bY + cy - dy) - (ax - bx + cx - dx) * (bY - cy) ≤ 256000000 := by omega
  clear p1 p2 p3 p4 p5 p6
  generalize (bx - cx) * (dy - cy) - (dx - cx) * (bY - cy) = DI at *
  generalize (ax - bx + cx - dx) * (dy - cy) - (dx - cx) * (ay - bY + cy - dy) = DG at *
  generalize (bx - cx) * (ay - bY + cy - dy) - (ax - bx + cx - dx) * (bY - cy) = DH at *
  generalize (cx - bx) * (dy - cy) - (cy - bY) * (dx - cx) = T2 at *
  generalize (dx - cx) * (ay - dy) - (dy - cy) * (ax - dx) = T3 at *
  generalize (bx - ax) * (cy - bY) - (bY - ay) * (cx - bx) = T1 at *
  generalize (ax - dx) * (bY - ay) - (ay - dy) * (bx - ax) = T4 at *
  have q1 := big_pr (x := bx - ax) (d := DI) (by omega) bI
  have q2 := big_pr' (x := bx) (d := DG) (by omega) bG
  have q3 := big_pr (x := dx - ax) (d := DI) (by omega) bI
  have q4 := big_pr' (x := dx) (d := DH) (by omega) bH
  have q5 := big_pr (x := ax) (d := DI) (by omega) bI
  have q6 := big_pr (x := bY - ay) (d := DI) (by omega) bI
  have q7 := big_pr' (x := bY) (d := DG) (by omega) bG
  have q8 := big_pr (x := dy - ay) (d := DI) (by omega) bI
  have q9 := big_pr' (x := dy) (d := DH) (by omega) bH
  have q0 := big_pr (x := ay) (d := DI) (by omega) bI
  have ra := ent_rg hsn e0 (by omega) (by omega)
  have rb := ent_rg hsn e1 (by omega) (by omega)
  have rc := ent_rg hsn e2 (by omega) (by omega)
  have rd := ent_rg hsn e3 (by omega) (by omega)
  have re := ent_rg hsn e4 (by omega) (by omega)
  have rf := ent_rg hsn e5 (by omega) (by omega)
  have rg := ent_rg hsn e6 (by omega) (by omega)
  have rh := ent_rg hsn e7 (by omega) (by omega)
  have ri := ent_rg hsn e8 (by omega) (by omega)
  have hsum : s * (g + h + i) = DG + DH + DI := by rw [Int.mul_add, Int.mul_add, ← e6, ← e7, ← e8]
  have hi : 0 < i := cancel_neg hsn (by rw [← e8]; omega)
  refine ⟨?_, hi, cancel_neg hsn (by rw [Int.mul_add, ← e6, ← e8]; omega), cancel_neg hsn (by rw [Int.mul_add, ← e7, ← e8]; omega), cancel_neg hsn (by rw [Int.mul_add, Int.mul_add, ← e6, ← e7, ← e8]; omega), ?_, ?_, ?_, ?_, ?_, ?_, ?_, ?_, ?_⟩
  · rw [isMapB_yes (i := i) ?_ rfl hi, hgT]
    · rfl
    · simp only [inAll, List.all_cons, List.all_nil, Bool.and_true, Bool.and_eq_true]
      exact ⟨inR_mk ra.1 ra.2, inR_mk rb.1 rb.2, inR_mk rc.1 rc.2, inR_mk rd.1 rd.2, inR_mk re.1 re.2, inR_mk rf.1 rf.2, inR_mk rg.1 rg.2, inR_mk rh.1 rh.2, inR_mk ri.1 ri.2⟩
  · exact cancel_s hs0 (by rw [← e2, e8, Int.mul_left_comm])
  · exact cancel_s hs0 (by rw [← e5, e8, Int.mul_left_comm])
  · exact cancel_s hs0 (by rw [Int.mul_add, ← e0, ← e2, Int.mul_left_comm, Int.mul_add, ← e6, ← e8]; grind)
  · exact cancel_s hs0 (by rw [Int.mul_add, ← e3, ← e5, Int.mul_left_comm, Int.mul_add, ← e6, ← e8]; grind)
  · exact cancel_s hs0 (by rw [Int.mul_add, ← e1, ← e2, Int.mul_left_comm, Int.mul_add, ← e7, ← e8]; grind)
  · exact cancel_s hs0 (by rw [Int.mul_add, ← e4, ← e5, Int.mul_left_comm, Int.mul_add, ← e7, ← e8]; grind)
  · exact cancel_s hs0 (by rw [Int.mul_add, Int.mul_add, ← e0, ← e1, ← e2, Int.mul_left_comm, hsum]; exact kX)
  · exact cancel_s hs0 (by rw [Int.mul_add, Int.mul_add, ← e3, ← e4, ← e5, Int.mul_left_comm, hsum]; exact kY)
  · have hDI : DI ≠ 0 := by omega
    constructor
    · rintro ⟨rfl, rfl⟩
      have z6 : DG = 0 := by rw [e6, Int.mul_zero]
      have z7 : DH = 0 := by rw [e7, Int.mul_zero]
      rw [z6, z7, Int.mul_zero, Int.mul_zero] at kF1 kF2
      exact ⟨(Int.mul_eq_zero.1 kF1).resolve_right hDI, (Int.mul_eq_zero.1 kF2).resolve_right hDI⟩
    · rintro ⟨z1, z2⟩
      obtain ⟨z6, z7⟩ := kZ z1 z2
      rw [z6] at e6
      rw [z7] at e7
      exact ⟨(Int.mul_eq_zero.1 e6.symm).resolve_left hs0, (Int.mul_eq_zero.1 e7.symm).resolve_left hs0⟩
end Go.Proofs.YtnhhbpdjapccpaaDoor
