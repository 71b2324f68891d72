/-
  Chapter 23: are two finders at the same place? Printed by gen/fdr.py.
-/
import Derived.Test.YtkipaefhnmfebaaMfd
import Derived.ScopeJumps
import Derived.WalkMore
import Derived.Test.YtkipaefhnmfebaaMfc
import Derived.Test.YtkipaefhnmfebaaC01
import Derived.Test.YtkipaefhnmfebaaFrame
namespace Go.Proofs.Ytkipaefhnmfebaa
set_option linter.unusedSimpArgs false
open Go.RowKit Go.Deep

/-- A scope with one label to which the run jumps back: what is shown of a pass serves the way to the label too. -/
theorem wp_scope_search {P : Program} {Q : Exit → Act → World → Prop} {a : Act} {w : World} {c rest : Code} (l : Nat) (J : Act → World → Prop) (μ : Act → World → Nat) (hf : findLabel c l = some (Code.skip.seq rest))
    (pass : ∀ a w, J a w → rest.wp P (Exit.jump l (fun a' w' => J a' w' ∧ μ a' w' < μ a w) Q) a w)
    (first : (∀ a w, J a w → rest.wp P (Exit.jump l J Q) a w) → c.wp P (Exit.jump l J Q) a w) : (Code.scope c).wp P Q a w := by
  refine wp_scope_jumps l J μ hf (first fun a w hJ => wp_mono (pass a w hJ) ?_) (fun a w hJ => wp_seq (wp_skip (pass a w hJ)))
  intro e a' w' h
  cases e with
  | goto l' => exact ⟨h.1, h.2.1⟩
  | normal => exact h
  | exit id => exact h
  | ret => exact h
  | panic ch => exact h
  | outgrown => exact h
section
variable {l id : Nat} {J : Act → World → Prop} {Q : Exit → Act → World → Prop} {a : Act} {w : World}
theorem then_goto {K : Act → World → Prop} (h : Q (.goto l) a w) : Exit.then K Q (.goto l) a w := h
theorem jump_exit (h : Q (.exit id) a w) : Exit.jump l J Q (.exit id) a w := h
theorem jump_normal (h : Q .normal a w) : Exit.jump l J Q .normal a w := h
theorem jump_goto (h : J a w) : Exit.jump l J Q (.goto l) a w := ⟨rfl, h⟩
end
/-- The first scope in a code. -/
def firstScope : Code → Option Code
  | .scope c => some c
  | .seq x y => (firstScope x).orElse fun _ => firstScope y
  | .block _ c => firstScope c
  | .loop c => firstScope c
  | .cond _ x y => (firstScope x).orElse fun _ => firstScope y
  | _ => none
structure CdP (w0 : World) (R C : Nat) (A : Option Addr) (n cp : Nat) (G : List Int) (bD bG bF gd gf : Nat) (W : World) (q : Value) (L : List FdT) : Prop where
  col : ColP w0 R C A n cp G bD bG bF gd gf W
  own : OwnF W w0.heap.size q L
section
variable {w0 W W' : World} {R C n cp bD bG bF gd gf : Nat} {A : Option Addr} {G : List Int} {q : Value} {L : List FdT}
theorem CdP.keep (h : CdP w0 R C A n cp G bD bG bF gd gf W q L) (hb : Below W.heap.size W W') : CdP w0 R C A n cp G bD bG bF gd gf W' q L := ⟨h.col.keep hb, OwnT.keep h.own hb⟩
theorem CdP.same (h : CdP w0 R C A n cp G bD bG bF gd gf W q L) (hc : ColP w0 R C A n cp G bD bG bF gd gf W') (hs : SameD W W') : CdP w0 R C A n cp G bD bG bF gd gf W' q L := ⟨hc, OwnT.sameD h.own hs (by decide) (by decide)⟩
theorem CdP.app {q' : Value} {x : FdT} {o : Obj} (h : CdP w0 R C A n cp G bD bG bF gd gf W q L) (ho : OwnF W' w0.heap.size q' (L ++ [x])) (hg : (W.alloc o).grownBy W' q.ownBlock) : CdP w0 R C A n cp G bD bG bF gd gf W' q' (L ++ [x]) := by
  refine ⟨h.col.sameT (t0 := 47) (fun b t cs ht hb => grown1 h.own hg hb ht) ?_ (by decide) (by decide) (by decide) (by decide) (by decide) (by decide), ho⟩
  exact (h.col.bel.alloc h.col.bel.size _).grown hg (by have := h.col.bel.size; rw [World.size_alloc]; omega) fun j hj => (h.own.lt j hj).1
theorem CdP.to {L' : List FdT} (h : CdP w0 R C A n cp G bD bG bF gd gf W q L) (e : L = L') : CdP w0 R C A n cp G bD bG bF gd gf W q L' := e ▸ h
end
/-- What the search in a column carries. -/
structure CsP (w0 : World) (R C : Nat) (A : Option Addr) (n cp : Nat) (G : List Int) (bD bG bF gd gf : Nat) (W : World) (q : Value) (L : List FdT) (vs : Value) (S : List SecT) (vd : Value) (D : List SecT) (bs : Nat) (s : SecT) : Prop where
  cd : CdP w0 R C A n cp G bD bG bF gd gf W q L
  row : OwnS W w0.heap.size vs S
  col : OwnS W w0.heap.size vd D
  box : W.heap[bs]? = some (.cells (secC s).toArray 117 (0, 0))
theorem CsP.keep {w0 W W' : World} {R C n cp bD bG bF gd gf bs : Nat} {A : Option Addr} {G : List Int} {q vs vd : Value} {L : List FdT} {S D : List SecT} {s : SecT} (h : CsP w0 R C A n cp G bD bG bF gd gf W q L vs S vd D bs s) (hb : Below W.heap.size W W') : CsP w0 R C A n cp G bD bG bF gd gf W' q L vs S vd D bs s :=
  ⟨h.cd.keep hb, h.row.keep hb, h.col.keep hb, (hb.block bs (lt_of_block h.box)).trans h.box⟩
theorem CsP.cells {w0 W : World} {R C n cp bD bG bF gd gf bs : Nat} {A : Option Addr} {G : List Int} {q vs vd : Value} {L : List FdT} {S D : List SecT} {s : SecT} (h : CsP w0 R C A n cp G bD bG bF gd gf W q L vs S vd D bs s) :
    W.cell? ⟨bs, 0, none⟩ = some (.int .i64 s.s) ∧ W.cell? ⟨bs, 1, none⟩ = some (.int .i64 s.l) ∧ W.cell? ⟨bs, 2, none⟩ = some (.int .i64 s.m.s) ∧ W.cell? ⟨bs, 3, none⟩ = some (.int .i64 s.m.l) := by
  refine ⟨?_, ?_, ?_, ?_⟩ <;> · rw [cell_of_row W bs _ _ _ (0, 0) h.box]; rfl
theorem ms_lt {m k : Nat} (h : k < m) : m - (intOf (Value.int .i64 ((k + 1 : Nat) : Int))).toNat < m - (intOf (Value.int .i64 (k : Int))).toNat := by simp [intOf]; omega
theorem len_bd {A B : List FdT} {L : List SecT} {k m rC C n : Nat} (h1 : B.length ≤ (L.take k).length) (hm : L.length = m) (h2 : A.length ≤ rC) (h3 : m ≤ C) (h4 : rC + C ≤ n) (h5 : n ≤ 40000) : (A ++ B).length ≤ 80000 := by
  rw [List.length_take, hm] at h1
  rw [List.length_append]; omega
def candFr (R C b o n cp r rC wz w1z wiz bD bG bF g m c2 k : Nat) (s : SecT) (mc : Nat) (u19 u20 u94 : Value) (u4 u9 : Value) (i : Nat) (u11 u39 u40 u41 u42 u43 u44 u45 u46 u47 u48 u49 u50 u51 u52 u53 u54 u55 u56 u57 u58 u59 u60 u61 u62 u63 u64 u65 u66 u67 u68 u69 u70 u71 u72 u73 u74 u75 u76 u77 u78 u79 u80 u81 u82 u83 u84 u85 u86 u87 u88 u89 u90 u91 u92 u93 : Value) : Act := { tmps := #[.agg #[.int .i64 R, .int .i64 C, .slice (some ⟨b, o, none⟩) n cp], .pointer (some ⟨wz, 0, none⟩), .slice none 0 0, .func (.func 103) #[] #[.pointer (some ⟨bD, 0, none⟩), .pointer (some ⟨bG, 0, none⟩), .pointer (some ⟨bF, 0, none⟩)], u4, .int .i64 r, undef, .pointer (some ⟨wiz, 0, none⟩), .int .i64 (mc : Nat), u9, .int .i64 (i : Nat), u11, .agg #[.int .i64 R, .int .i64 C, .slice (some ⟨b, o, none⟩) n cp], .func (.func 103) #[] #[.pointer (some ⟨bD, 0, none⟩), .pointer (some ⟨bG, 0, none⟩), .pointer (some ⟨bF, 0, none⟩)], .slice (some ⟨w1z, 0, none⟩) 0 0, .int .i64 r, .pointer (some ⟨wz, 0, none⟩), .int .i64 R, .bool true, u19, u20, .pointer (some ⟨wz, 2, none⟩), .slice (some ⟨b, o, none⟩) n cp, .int .i64 r, .pointer (some ⟨wz, 1, none⟩), .int .i64 C, .int .i64 rC, .int .i64 r, .int .i64 ((r : Int) + 1), .pointer (some ⟨wz, 1, none⟩), .int .i64 C, .int .i64 ((rC : Int) + (C : Int)), .slice (some ⟨b, o + rC, none⟩) C (cp - rC), .slice (some ⟨g, 0, none⟩) m c2, .int .i64 m, .int .i64 k, .bool true, .pointer (some ⟨g, k * 5, none⟩), .agg #[.int .i64 s.s, .int .i64 s.l, .int .i64 s.m.s, .int .i64 s.m.l, .bool s.m.d], u39, u40, u41, u42, u43, u44, u45, u46, u47, u48, u49, u50, u51, u52, u53, u54, u55, u56, u57, u58, u59, u60, u61, u62, u63, u64, u65, u66, u67, u68, u69, u70, u71, u72, u73, u74, u75, u76, u77, u78, u79, u80, u81, u82, u83, u84, u85, u86, u87, u88, u89, u90, u91, u92, u93, u94, undef], defers := [] }
/-- At the label. -/
def candJ (R C b o n cp r rC wz w1z wiz bD bG bF g m c2 k : Nat) (s : SecT) (mc : Nat) (u19 u20 u94 : Value) (w0 : World) (G : List Int) (gd gf : Nat) (u4 : Value) (M : List FdT) (L D : List SecT) (md : Nat) : Act → World → Prop := fun a' w' =>
  ∃ (i : Nat) (A9 : Option Addr) (c9 : Nat) (u11 u39 u40 u41 u42 u43 u44 u45 u46 u47 u48 u49 u50 u51 u52 u53 u54 u55 u56 u57 u58 u59 u60 u61 u62 u63 u64 u65 u66 u67 u68 u69 u70 u71 u72 u73 u74 u75 u76 u77 u78 u79 u80 u81 u82 u83 u84 u85 u86 u87 u88 u89 u90 u91 u92 u93 : Value), a' = candFr R C b o n cp r rC wz w1z wiz bD bG bF g m c2 k s mc u19 u20 u94 u4 (.slice A9 md c9) i u11 u39 u40 u41 u42 u43 u44 u45 u46 u47 u48 u49 u50 u51 u52 u53 u54 u55 u56 u57 u58 u59 u60 u61 u62 u63 u64 u65 u66 u67 u68 u69 u70 u71 u72 u73 u74 u75 u76 u77 u78 u79 u80 u81 u82 u83 u84 u85 u86 u87 u88 u89 u90 u91 u92 u93 ∧ i ≤ md ∧ CsP w0 R C (some ⟨b, o, none⟩) n cp G bD bG bF gd gf w' u4 M (.slice (some ⟨g, 0, none⟩) m c2) L (.slice A9 md c9) D wiz s ∧ ∀ t ∈ D.take i, hitB r t = false
/-- Behind the search. -/
def candE (R C b o n cp r rC wz w1z wiz bD bG bF g m c2 k : Nat) (s : SecT) (mc : Nat) (u19 u20 u94 : Value) (w0 : World) (G : List Int) (gd gf : Nat) (M' : List FdT) (L : List SecT) : Act → World → Prop := fun a' w' =>
  ∃ (q u9 : Value) (i : Nat) (u11 u39 u40 u41 u42 u43 u44 u45 u46 u47 u48 u49 u50 u51 u52 u53 u54 u55 u56 u57 u58 u59 u60 u61 u62 u63 u64 u65 u66 u67 u68 u69 u70 u71 u72 u73 u74 u75 u76 u77 u78 u79 u80 u81 u82 u83 u84 u85 u86 u87 u88 u89 u90 u91 u92 u93 : Value), a' = candFr R C b o n cp r rC wz w1z wiz bD bG bF g m c2 k s mc u19 u20 u94 q u9 i u11 u39 u40 u41 u42 u43 u44 u45 u46 u47 u48 u49 u50 u51 u52 u53 u54 u55 u56 u57 u58 u59 u60 u61 u62 u63 u64 u65 u66 u67 u68 u69 u70 u71 u72 u73 u74 u75 u76 u77 u78 u79 u80 u81 u82 u83 u84 u85 u86 u87 u88 u89 u90 u91 u92 u93 ∧ CdP w0 R C (some ⟨b, o, none⟩) n cp G bD bG bF gd gf w' q M' ∧ OwnS w' w0.heap.size (.slice (some ⟨g, 0, none⟩) m c2) L
set_option maxRecDepth 100000 in
set_option maxHeartbeats 8000000 in
theorem cand_pass (R C b o n cp r rC wz w1z wiz bD bG bF g m c2 k : Nat) (s : SecT) (mc : Nat) (u19 u20 u94 : Value) (w0 : World) (G : List Int) (gd gf : Nat) (u4 : Value) (M : List FdT) (L D : List SecT) (md : Nat) (c rest : Code) (hc : Try.f58.body.bind firstScope = some c) (hf : findLabel c 0 = some (Code.skip.seq rest))
    (hmd : D.length = md) (hDP : D.Pairwise apT) (hDO : ∀ t ∈ D, SecOk R t) (hil : md ≤ 40000) (hR : R ≤ 40000) (hC : C ≤ 40000) (hso : SecOk C s) (hM : M.length ≤ 80000) (a : Act) (w : World)
    (hJ : candJ R C b o n cp r rC wz w1z wiz bD bG bF g m c2 k s mc u19 u20 u94 w0 G gd gf u4 M L D md a w) :
    rest.wp Try.prog (Exit.jump 0 (fun a' w' => candJ R C b o n cp r rC wz w1z wiz bD bG bF g m c2 k s mc u19 u20 u94 w0 G gd gf u4 M L D md a' w' ∧ (md - (intOf (a'.tmps.getD 10 undef)).toNat) < (md - (intOf (a.tmps.getD 10 undef)).toNat)) (fun e a' w' => (e = .normal ∨ e = .exit 3) ∧ candE R C b o n cp r rC wz w1z wiz bD bG bF g m c2 k s mc u19 u20 u94 w0 G gd gf (M ++ (D.filter (hitB r)).map (fdV s)) L a' w')) a w := by
  obtain ⟨i0, hi0⟩ := info_own' info_fds
  have HI := Lib.hid (And.intro i0.bytes.le_refl hi0)
  clear hi0
  obtain rfl := Option.some.inj hc
  clear hc
  obtain rfl := (Code.seq.inj (Option.some.inj hf)).2
  clear hf
  obtain ⟨i, A9, c9, u11, u39, u40, u41, u42, u43, u44, u45, u46, u47, u48, u49, u50, u51, u52, u53, u54, u55, u56, u57, u58, u59, u60, u61, u62, u63, u64, u65, u66, u67, u68, u69, u70, u71, u72, u73, u74, u75, u76, u77, u78, u79, u80, u81, u82, u83, u84, u85, u86, u87, u88, u89, u90, u91, u92, u93, rfl, hi, hcs, hno⟩ := hJ
  have HJD := Lib.hid (fun (i' : Nat) (c' : World) (A9 : Option Addr) (c9 : Nat) (u11 u39 u40 u41 u42 u43 u44 u45 u46 u47 u48 u49 u50 u51 u52 u53 u54 u55 u56 u57 u58 u59 u60 u61 u62 u63 u64 u65 u66 u67 u68 u69 u70 u71 u72 u73 u74 u75 u76 u77 u78 u79 u80 u81 u82 u83 u84 u85 u86 u87 u88 u89 u90 u91 u92 u93 : Value) (h1 : i' ≤ md) (h2 : CsP w0 R C (some ⟨b, o, none⟩) n cp G bD bG bF gd gf c' u4 M (.slice (some ⟨g, 0, none⟩) m c2) L (.slice A9 md c9) D wiz s) (h3 : ∀ t ∈ D.take i', hitB r t = false) =>
    (show candJ R C b o n cp r rC wz w1z wiz bD bG bF g m c2 k s mc u19 u20 u94 w0 G gd gf u4 M L D md (candFr R C b o n cp r rC wz w1z wiz bD bG bF g m c2 k s mc u19 u20 u94 u4 (.slice A9 md c9) i' u11 u39 u40 u41 u42 u43 u44 u45 u46 u47 u48 u49 u50 u51 u52 u53 u54 u55 u56 u57 u58 u59 u60 u61 u62 u63 u64 u65 u66 u67 u68 u69 u70 u71 u72 u73 u74 u75 u76 u77 u78 u79 u80 u81 u82 u83 u84 u85 u86 u87 u88 u89 u90 u91 u92 u93) c' from ⟨i', A9, c9, u11, u39, u40, u41, u42, u43, u44, u45, u46, u47, u48, u49, u50, u51, u52, u53, u54, u55, u56, u57, u58, u59, u60, u61, u62, u63, u64, u65, u66, u67, u68, u69, u70, u71, u72, u73, u74, u75, u76, u77, u78, u79, u80, u81, u82, u83, u84, u85, u86, u87, u88, u89, u90, u91, u92, u93, rfl, h1, h2, h3⟩))
  have HED := Lib.hid (fun (M' : List FdT) (q u9 : Value) (i' : Nat) (c' : World) (u11 u39 u40 u41 u42 u43 u44 u45 u46 u47 u48 u49 u50 u51 u52 u53 u54 u55 u56 u57 u58 u59 u60 u61 u62 u63 u64 u65 u66 u67 u68 u69 u70 u71 u72 u73 u74 u75 u76 u77 u78 u79 u80 u81 u82 u83 u84 u85 u86 u87 u88 u89 u90 u91 u92 u93 : Value) (h1 : CdP w0 R C (some ⟨b, o, none⟩) n cp G bD bG bF gd gf c' q M') (h2 : OwnS c' w0.heap.size (.slice (some ⟨g, 0, none⟩) m c2) L) =>
    (show candE R C b o n cp r rC wz w1z wiz bD bG bF g m c2 k s mc u19 u20 u94 w0 G gd gf M' L (candFr R C b o n cp r rC wz w1z wiz bD bG bF g m c2 k s mc u19 u20 u94 q u9 i' u11 u39 u40 u41 u42 u43 u44 u45 u46 u47 u48 u49 u50 u51 u52 u53 u54 u55 u56 u57 u58 u59 u60 u61 u62 u63 u64 u65 u66 u67 u68 u69 u70 u71 u72 u73 u74 u75 u76 u77 u78 u79 u80 u81 u82 u83 u84 u85 u86 u87 u88 u89 u90 u91 u92 u93) c' from ⟨q, u9, i', u11, u39, u40, u41, u42, u43, u44, u45, u46, u47, u48, u49, u50, u51, u52, u53, u54, u55, u56, u57, u58, u59, u60, u61, u62, u63, u64, u65, u66, u67, u68, u69, u70, u71, u72, u73, u74, u75, u76, u77, u78, u79, u80, u81, u82, u83, u84, u85, u86, u87, u88, u89, u90, u91, u92, u93, rfl, h1, h2⟩))
  unfold candFr
  obtain ⟨J, hJ⟩ : ∃ J, candJ R C b o n cp r rC wz w1z wiz bD bG bF g m c2 k s mc u19 u20 u94 w0 G gd gf u4 M L D md = J := ⟨_, rfl⟩
  obtain ⟨E, hE⟩ : ∃ E, candE R C b o n cp r rC wz w1z wiz bD bG bF g m c2 k s mc u19 u20 u94 w0 G gd gf (M ++ (D.filter (hitB r)).map (fdV s)) L = E := ⟨_, rfl⟩
  rw [hJ, hE]
  have hzw := hcs.cd.col.bel.size
  have HCS := Lib.hid hcs
  have HNO := Lib.hid hno
  have HX := Lib.hid (And.intro hJ hE)
  clear hcs hno hJ hE
  by_cases him : i < md
  · have himI : (i : Int) < (md : Int) := by omega
    have hie : ((i : Int) == (md : Int)) = false := by simp; omega
    have hl1 : i < D.length := hmd.symm ▸ him
    obtain ⟨g9, c9', e, -, hg9, hc9⟩ := HCS.out.col.look (by omega)
    rw [hmd] at e
    cases e
    obtain ⟨q0, q1, q2, q3, q4⟩ := hc9 i hl1
    obtain ⟨x0, x1, x2, x3⟩ := HCS.out.cells
    have hbl := lt_of_block HCS.out.box
    have hgm : gS D i ∈ D := by rw [gS_eq hl1]; exact List.getElem_mem _
    have HTK : Hid (D.take (i + 1) = D.take i ++ [gS D i] ∧ D = D.take i ++ gS D i :: D.drop (i + 1)) := Lib.hid ⟨by rw [gS_eq hl1, List.take_succ_eq_append_getElem], by rw [gS_eq hl1, ← List.drop_eq_getElem_cons, List.take_append_drop]⟩
    have hok := hDO _ hgm
    have hir := hit_inR r (gS D i)
    obtain ⟨t, ht⟩ : ∃ t, gS D i = t := ⟨_, rfl⟩
    rw [ht] at q0 q1 q2 q3 q4 HTK hok hir
    have p1 := hok.e
    have p2 := hok.m
    have p3 := hok.p
    have s1 := hso.e
    have hw1 : IntKind.i64.wrap ((t.m.s : Int) + (t.m.l : Int) - 1) = (t.m.s : Int) + (t.m.l : Int) - 1 := wr64s (by omega)
    have HKJ := Lib.hid (HCS.out.keep ((Below.refl _ _).alloc (Nat.le_refl _) (.cells (secC t).toArray 117)))
    clear hc9 hgm ht hok hl1
    cases hh : hitB r t with
    | false =>
      rw [hh] at hir
      have HNH : Hid (∀ u ∈ D.take (i + 1), hitB r u = false) := Lib.hid (by
        intro u hu
        rw [HTK.out.1, List.mem_append, List.mem_singleton] at hu
        rcases hu with hu | rfl
        · exact HNO.out u hu
        · exact hh)
      have HCI : Hid ((i : Int) + 1 = ((i + 1 : Nat) : Int)) := Lib.hid (by omega)
      have HMS : Hid (md - (intOf (Value.int .i64 ((i + 1 : Nat) : Int))).toNat < md - (intOf (Value.int .i64 (i : Int))).toNat) := Lib.hid (by simp [intOf]; omega)
      clear hh
      go_wp2_with (go_at_call 39; refine (inRange_any _ _ _ _).mono ?_; rintro e6 w6 ⟨rfl, rfl⟩)
      rw [HCI.out]
      refine wp_goto ?_
      repeat refine then_goto ?_
      refine jump_goto ⟨?_, HMS.out⟩
      rw [← HX.out.1]
      exact HJD.out (i + 1) _ _ _ _ _ _ _ _ _ _ _ _ _ _ _ _ _ _ _ _ _ _ _ _ _ _ _ _ _ _ _ _ _ _ _ _ _ _ _ _ _ _ _ _ _ _ _ _ _ _ _ _ _ _ _ _ _ _ _ (by omega) HKJ.out HNH.out
    | true =>
      rw [hh] at hir
      have HNX : Hid (M ++ (D.filter (hitB r)).map (fdV s) = M ++ [fdV s t]) := Lib.hid (by
        have e : D.filter (hitB r) = [t] := by
          have h1 := HTK.out.2
          have h2 := hDP
          rw [h1] at h2 ⊢
          exact hit_one h2 HNO.out hh
        rw [e, List.map_singleton])
      obtain ⟨f0, hf0⟩ : ∃ x, 2 * t.s + t.l = x := ⟨_, rfl⟩
      obtain ⟨f1, hf1⟩ : ∃ x, 2 * s.s + s.l = x := ⟨_, rfl⟩
      have HFD : Hid (fdV s t = ⟨f0, f1, t.l, s.l⟩) := Lib.hid (by unfold fdV; rw [hf0, hf1])
      have hg0 : 2 * (t.s : Int) + (t.l : Int) = (f0 : Nat) := by omega
      have hg1 : 2 * (s.s : Int) + (s.l : Int) = (f1 : Nat) := by omega
      rw [HFD.out] at HNX
      have HOA := Lib.hid HKJ.out.cd.own
      clear hh hf0 hf1
      go_wp2_with first | (go_at_call 39; refine (inRange_any _ _ _ _).mono ?_; rintro e6 w6 ⟨rfl, rfl⟩) | (at_builtin; refine wpList_append_own _ rfl _ _ 43 rfl w0.heap.size 47 i0 (.agg #[.int .i64 0, .int .i64 0, .int .i64 0, .int .i64 0]) 4 32 Try.underlying43 HI.out.2.1 HI.out.2.2.1 HI.out.2.2.2.1 HI.out.2.2.2.2 rfl (by decide) u4 M.length (M.flatMap fdC) rfl (OwnF.alloc HOA.out _) ⟨w.heap.size + 1, 0, none⟩ 1 1 (fdC ⟨f0, f1, t.l, s.l⟩) rfl rfl (news_runs _ _ _ (by simp)) (fdC_ok _) (by unfold maxLen; omega) (by omega) (by simp; omega) ?_; intro va wa hown hg _; have HNF := Lib.hid (And.intro hown hg); clear hown hg)
      refine jump_normal ⟨.inl rfl, ?_⟩
      rw [← HX.out.2, HNX.out]
      exact HED.out _ va _ _ _ _ _ _ _ _ _ _ _ _ _ _ _ _ _ _ _ _ _ _ _ _ _ _ _ _ _ _ _ _ _ _ _ _ _ _ _ _ _ _ _ _ _ _ _ _ _ _ _ _ _ _ _ _ _ _ _ (HKJ.out.cd.app (OwnF.snoc HNF.out.1) HNF.out.2) (OwnT.grownN HKJ.out.row HKJ.out.cd.own HNF.out.2 (by decide))
  · have him2 : i = md := by omega
    subst him2
    have HNF : Hid (M ++ (D.filter (hitB r)).map (fdV s) = M) := Lib.hid (by
      rw [hit_none (fun t ht => HNO.out t (by rw [← hmd, List.take_length]; exact ht)), List.map_nil, List.append_nil])
    go_wp2_with fail
    refine jump_exit ⟨.inr rfl, ?_⟩
    rw [← HX.out.2]
    rw [HNF.out]
    exact HED.out _ _ _ _ _ _ _ _ _ _ _ _ _ _ _ _ _ _ _ _ _ _ _ _ _ _ _ _ _ _ _ _ _ _ _ _ _ _ _ _ _ _ _ _ _ _ _ _ _ _ _ _ _ _ _ _ _ _ _ _ _ HCS.out.cd HCS.out.row
end Go.Proofs.Ytkipaefhnmfebaa
namespace Go.Proofs.Ytkipaefhnmfebaa
set_option linter.unusedSimpArgs false
open Go.RowKit Go.Deep

theorem row_cells {G : List Int} {C r k : Nat} (hk : k < C) : nth (lnR G C r) k = nth G (r * C + k) := by
  unfold nth lnR
  rw [List.getD_eq_getElem?_getD, List.getD_eq_getElem?_getD, List.getElem?_take, if_pos hk, List.getElem?_drop]
/-- A row of a grid. -/
theorem row_ri {W : World} {B R C r n : Nat} {A : Option Addr} {G : List Int} (h : RI W B A n G) (hn : n = R * C) (hr : r < R) (hC : 1 ≤ C) : ∃ b o, A = some ⟨b, o, none⟩ ∧ b < B ∧ RI W B (some ⟨b, o + r * C, none⟩) C (lnR G C r) := by
  have hl := Nat.mul_le_mul_right C (show r + 1 ≤ R from hr)
  rw [Nat.succ_mul] at hl
  obtain ⟨b, o, rfl, hb, hc⟩ := h.cells (by omega)
  refine ⟨b, o, rfl, hb, lnR_len (by rw [h.len, hn]) hr, fun _ => ⟨b, o + r * C, rfl, hb, fun k hk => ?_⟩⟩
  rw [row_cells hk, Nat.add_assoc]
  exact hc (r * C + k) (by omega)
set_option maxRecDepth 100000 in
set_option maxHeartbeats 8000000 in
theorem candidates_any (R C : Nat) (A : Option Addr) (n cp : Nat) (G : List Int) (w : World) (hr : RI w w.heap.size A n G) (hn : n = R * C) (hcp : n ≤ cp ∧ cp ≤ 9223372036854775807) (hnb : n ≤ 40000) (hR : R ≤ 40000) (hC : 1 ≤ C ∧ C ≤ 40000) :
    Calls Try.prog 58 #[.agg #[.int .i64 R, .int .i64 C, .slice A n cp]] w fun e w' => ∃ v, e = .returned v ∧ OwnF w' w.heap.size v (cdN G R C R) ∧ Below w.heap.size w w' := by
  obtain ⟨i0, hi⟩ := info_own' info_fds
  have HI := Lib.hid (And.intro i0.bytes.le_refl hi)
  clear hi
  obtain ⟨w0, hw0⟩ : ∃ w0, w.alloc (.cells #[.int .i64 R, .int .i64 C, .slice A n cp] 41) = w0 := ⟨_, rfl⟩
  have hz0 : w0.heap.size = w.heap.size + 1 := by rw [← hw0]; simp
  have HBX : Hid (w0.heap[w.heap.size]? = some (.cells #[.int .i64 R, .int .i64 C, .slice A n cp] 41 (0, 0))) := Lib.hid (by rw [← hw0]; exact heap_alloc_new _ _)
  have HB0 : Hid (Below w.heap.size w w0) := Lib.hid (by rw [← hw0]; go_grown)
  have HR : Hid (RI w0 w0.heap.size A n G) := Lib.hid ((hr.below HB0.out).more (by omega))
  have HCO := Lib.hid (columns_any R C A n cp G w0 hC.2)
  obtain ⟨z0, z1, z2, -⟩ := blk3 HBX.out
  have HLN := Lib.hid (hr.len.trans hn)
  have HNR := Lib.hid hn
  have HCM := Lib.hid (fun r (h : r ≤ R) => cdN_len HLN.out r h)
  clear hr hn
  go_enter Try.func58, Try.ntmps58
  go_wp2_with (go_at_call 78; refine HCO.out.mono ?_; rintro e1 w1 ⟨bD, bG, bF, gd, gf, rfl, hcol⟩; have HP0 := Lib.hid (show CdP w0 R C A n cp G bD bG bF gd gf (w1.alloc (.cells #[] 47)) (.slice (some ⟨w1.heap.size, 0, none⟩) 0 0) (cdN G R C 0) from ⟨hcol.keep (by go_grown), OwnF.empty hcol.bel.size⟩); clear hcol)
  clear HCO z0 z1 z2
  go_loopw [4, 5] (fun q i wr => ∃ r : Nat, r ≤ R ∧ i = .int .i64 r ∧ Hid (CdP w0 R C A n cp G bD bG bF gd gf wr q (cdN G R C r))) (fun _ i _ => R - (intOf i).toNat)
  case atStart => exact ⟨0, Nat.zero_le _, rfl, HP0⟩
  case round =>
    clear HP0
    obtain ⟨r, hr, rfl, HS⟩ := hrel
    have hb := HS.out.col.bel
    have hwz := lt_of_block HBX.out
    have hzr := hb.size
    have hbx := (hb.block w.heap.size hwz).trans HBX.out
    obtain ⟨z0, z1, z2, -⟩ := blk3 hbx
    clear hb hbx
    by_cases hlt : r < R
    · have hrR : (r : Int) < (R : Int) := by omega
      obtain ⟨b, o, rfl, hbw, hri⟩ := row_ri (HR.out.below HS.out.col.bel) HNR.out hlt hC.1
      have hrn : r * C + C ≤ n := by
        have hl := Nat.mul_le_mul_right C (show r + 1 ≤ R from hlt)
        rw [Nat.succ_mul] at hl
        rw [HNR.out]; exact hl
      obtain ⟨rC, hrC⟩ : ∃ x, r * C = x := ⟨_, rfl⟩
      have he1 : (r : Int) * (C : Int) = (rC : Nat) := by rw [← hrC]; simp
      have he2 : ((r : Int) + 1) * (C : Int) = (rC : Int) + (C : Int) := by rw [Int.add_mul, he1, Int.one_mul]
      rw [hrC] at hrn hri
      have HSE := Lib.hid (sections_any (some ⟨b, o + rC, none⟩) C (cp - rC) (lnR G C r) _ (hri.more hzr) hC.2)
      have hsl := secs_len (lnR G C r)
      rw [hri.len] at hsl
      have HOKS := Lib.hid (secs_ok (lnR G C r))
      rw [hri.len] at HOKS
      have HCD : Hid (cdN G R C (r + 1) = cdN G R C r ++ (secs (lnR G C r)).flatMap (cdS G R C r)) := Lib.hid rfl
      have hcl := HCM.out r (by omega)
      rw [hrC] at hcl
      have HCL := Lib.hid (And.intro hcl hsl)
      clear hri hrC hcl hsl
      generalize secs (lnR G C r) = L at *
      obtain ⟨m, hm⟩ : ∃ m, L.length = m := ⟨_, rfl⟩
      rw [hm] at HCL
      have HM := Lib.hid hm
      go_wp2_with (go_at_call 79; with_reducible refine HSE.out.mono ?_; rintro e2 w2 ⟨v2, rfl, hos, hb2⟩; obtain ⟨A2, c2, rfl⟩ := OwnS.shape hos; rw [hm] at hos ⊢; have HP2 := Lib.hid (And.intro (show CdP w0 R C _ n cp G bD bG bF gd gf w2 u4 (cdN G R C r ++ (L.take 0).flatMap (cdS G R C r)) from (HS.out.keep hb2).to (by simp)) (show OwnS w2 w0.heap.size _ L from hos.more hzr)); clear hos hb2)
      clear HSE HS z0 z1 z2 he1 he2 hm
      go_loopw [4, 35] (fun q i wr => ∃ k : Nat, k ≤ m ∧ i = .int .i64 k ∧ Hid (CdP w0 R C (some ⟨b, o, none⟩) n cp G bD bG bF gd gf wr q (cdN G R C r ++ (L.take k).flatMap (cdS G R C r)) ∧ OwnS wr w0.heap.size (.slice A2 m c2) L)) (fun _ i _ => m - (intOf i).toNat)
      case atStart => exact ⟨0, Nat.zero_le _, rfl, HP2⟩
      case round =>
        clear HP2
        rename World => wi
        obtain ⟨k, hk, rfl, HS⟩ := hrel
        have hzi := HS.out.1.col.bel.size
        by_cases hkm : k < m
        · have hkmI : (k : Int) < (m : Int) := by omega
          obtain ⟨g, c, e, -, hg, hc⟩ := HS.out.2.look (by rw [HM.out]; omega)
          rw [HM.out] at e
          cases e
          obtain ⟨y0, y1, y2, y3, y4⟩ := hc k (by rw [HM.out]; exact hkm)
          have HKS : Hid (L.take (k + 1) = L.take k ++ [gS L k]) := Lib.hid (by rw [gS_eq (by rw [HM.out]; exact hkm), List.take_succ_eq_append_getElem])
          have hok := HOKS.out (gS L k) (by rw [gS_eq (by rw [HM.out]; exact hkm)]; exact List.getElem_mem _)
          obtain ⟨s, hs⟩ : ∃ s, gS L k = s := ⟨_, rfl⟩
          rw [hs] at y0 y1 y2 y3 y4 HKS hok
          have o1 := hok.e
          have o2 := hok.m
          have o3 := hok.p
          clear hc hs hok
          have hmc : mdC s < C := by unfold mdC; omega
          obtain ⟨mc, hmc'⟩ : ∃ x, mdC s = x := ⟨_, rfl⟩
          obtain ⟨D, hD⟩ : ∃ D, secs (lnC G R C mc) = D := ⟨_, rfl⟩
          obtain ⟨md, hmd⟩ : ∃ x, D.length = x := ⟨_, rfl⟩
          have HCDS : Hid (cdS G R C r s = ((secs (lnC G R C mc)).filter (hitB r)).map (fdV s)) := Lib.hid (by unfold cdS; rw [hmc'])
          have HDP := Lib.hid (secs_apart (lnC G R C mc))
          have HDO := Lib.hid (secs_ok (lnC G R C mc))
          rw [lnC_len] at HDO
          have hmcv : (s.m.s : Int) + (s.m.l : Int) / 2 = (mc : Nat) := by
            rw [← hmc']; unfold mdC; omega
          have hmcC : mc < C := by omega
          have HCOL := Lib.hid (fun W hp => col_any R C mc bD bG bF gd gf (some ⟨b, o, none⟩) n cp G w0 W HR.out HNR.out hnb hR hC.2 hmcC hp)
          have HPK : Hid (∀ w5 v5, OwnS w5 w0.heap.size v5 D → ColP w0 R C (some ⟨b, o, none⟩) n cp G bD bG bF gd gf w5 → SameD (wi.alloc (.cells (secC s).toArray 117)) w5 → CsP w0 R C (some ⟨b, o, none⟩) n cp G bD bG bF gd gf w5 u4 (cdN G R C r ++ (L.take k).flatMap (cdS G R C r)) (.slice (some ⟨g, 0, none⟩) m c2) L v5 D wi.heap.size s) := Lib.hid (fun w5 v5 h1 h2 h3 =>
            ⟨(HS.out.1.keep ((Below.refl _ _).alloc (Nat.le_refl _) _)).same h2 h3, OwnT.sameD (OwnS.keep HS.out.2 ((Below.refl _ _).alloc (Nat.le_refl _) _)) h3 (by decide) (by decide), h1, h3 _ _ _ (by decide) (by decide) (heap_alloc_new _ _)⟩)
          have HCP : Hid (ColP w0 R C (some ⟨b, o, none⟩) n cp G bD bG bF gd gf (wi.alloc (.cells (secC s).toArray 117))) := Lib.hid (HS.out.1.col.keep ((Below.refl _ _).alloc (Nat.le_refl _) _))
          rw [hD] at HCDS HDP HDO HCOL
          have HDL : Hid (md ≤ R) := Lib.hid (by rw [← hmd, ← hD]; have := secs_len (lnC G R C mc); rwa [lnC_len] at this)
          clear hD hmc'
          go_wp2_with fail
          have hso : SecOk C s := ⟨o1, o2, o3⟩
          have hmsm : k + 1 ≤ m := hkm
          have hwk : wrap64 ((k : Int) + 1) = ((k + 1 : Nat) : Int) := by have := HCL.out.2; unfold wrap64; omega
          have hms : m - (intOf (Value.int .i64 ((k + 1 : Nat) : Int))).toNat < m - (intOf (Value.int .i64 (k : Int))).toNat := ms_lt hkm
          have hMl : (cdN G R C r ++ (L.take k).flatMap (cdS G R C r)).length ≤ 80000 := len_bd (flat_len (cdS_len G R C r) (L.take k)) HM.out HCL.out.1 HCL.out.2 hrn hnb
          have HNX : Hid (cdN G R C r ++ (L.take k).flatMap (cdS G R C r) ++ (D.filter (hitB r)).map (fdV s) = cdN G R C r ++ (L.take (k + 1)).flatMap (cdS G R C r)) := Lib.hid (by rw [HKS.out, List.flatMap_append, List.flatMap_singleton, HCDS.out, List.append_assoc])
          refine wp_mono (Q := fun e a' w' => (e = .normal ∨ e = .exit 3) ∧ candE R C b o n cp r rC w.heap.size w1.heap.size wi.heap.size bD bG bF g m c2 k s mc u19 u20 u94 w0 G gd gf (cdN G R C r ++ (L.take k).flatMap (cdS G R C r) ++ (D.filter (hitB r)).map (fdV s)) L a' w') ?_ ?_
          · refine wp_scope_search 0 (candJ R C b o n cp r rC w.heap.size w1.heap.size wi.heap.size bD bG bF g m c2 k s mc u19 u20 u94 w0 G gd gf u4 (cdN G R C r ++ (L.take k).flatMap (cdS G R C r)) L D md) (fun a' _ => md - (intOf (a'.tmps.getD 10 undef)).toNat) rfl (fun a' w' hJ => cand_pass R C b o n cp r rC w.heap.size w1.heap.size wi.heap.size bD bG bF g m c2 k s mc u19 u20 u94 w0 G gd gf u4 _ L D md _ _ rfl rfl hmd HDP.out HDO.out (Nat.le_trans HDL.out hR) hR hC.2 hso hMl a' w' hJ) ?_
            intro hpass
            go_wp2_with (go_at_call 103; refine (HCOL.out _ HCP.out).mono ?_; rintro e5 w5 ⟨v5, rfl, hos5, hcol5, hsd⟩; have HPK5 := Lib.hid (HPK.out w5 v5 hos5 hcol5 hsd); obtain ⟨A9, c9, rfl⟩ := hos5.shape; rw [hmd] at HPK5 ⊢; clear hos5 hcol5 hsd)
            refine wp_label ?_
            simp only [Exit.then]
            rename_i hK
            exact hK _ _ (hpass _ _ ⟨0, A9, c9, _, _, _, _, _, _, _, _, _, _, _, _, _, _, _, _, _, _, _, _, _, _, _, _, _, _, _, _, _, _, _, _, _, _, _, _, _, _, _, _, _, _, _, _, _, _, _, _, _, _, _, _, _, _, _, _, rfl, Nat.zero_le _, HPK5.out, fun t ht => by simp at ht⟩)
          · rintro e a' w' ⟨he, q, u9', i', u11, u39, u40, u41, u42, u43, u44, u45, u46, u47, u48, u49, u50, u51, u52, u53, u54, u55, u56, u57, u58, u59, u60, u61, u62, u63, u64, u65, u66, u67, u68, u69, u70, u71, u72, u73, u74, u75, u76, u77, u78, u79, u80, u81, u82, u83, u84, u85, u86, u87, u88, u89, u90, u91, u92, u93, rfl, hcd, hrow⟩
            rw [HNX.out] at hcd
            have HNO := Lib.hid (And.intro hcd hrow)
            clear hcd hrow
            unfold candFr
            rcases he with rfl | rfl
            · go_wp2_with fail
              rw [hwk]
              exact ⟨⟨k + 1, hmsm, rfl, HNO⟩, hms⟩
            · go_wp2_with fail
              rw [hwk]
              exact ⟨⟨k + 1, hmsm, rfl, HNO⟩, hms⟩
        · obtain rfl : k = m := by omega
          have hkI : ¬ (k : Int) < (k : Int) := by omega
          have HNO : Hid (CdP w0 R C (some ⟨b, o, none⟩) n cp G bD bG bF gd gf wi u4 (cdN G R C (r + 1))) := Lib.hid (HS.out.1.to (by rw [HCD.out, List.take_of_length_le (by rw [HM.out]; exact Nat.le_refl _)]))
          clear HS
          go_wp2_with fail
          go_roundw
          case rel => exact ⟨r + 1, by omega, by go_num, HNO⟩
          case measure => simp [intOf]; omega
    · have hrR : ¬ (r : Int) < (R : Int) := by omega
      have HF : Hid (OwnF wr w.heap.size u4 (cdN G R C R) ∧ Below w.heap.size w wr) := Lib.hid ⟨(HS.out.own.to (show cdN G R C r = cdN G R C R by rw [show R = r by omega])).more (by omega), HB0.out.trans (HS.out.col.bel.mono (by omega))⟩
      clear HS
      go_wp2_with fail
      go_ret
      exact ⟨_, rfl, HF.out.1, HF.out.2⟩
end Go.Proofs.Ytkipaefhnmfebaa
namespace Go.Proofs.Ytkipaefhnmfebaa
set_option linter.unusedSimpArgs false
open Go.RowKit

structure FdB (x : FdT) : Prop where
  r : x.r ≤ 80000
  c : x.c ≤ 80000
  h : x.h ≤ 80000
  w : x.w ≤ 80000
theorem FdOk.b {R C : Nat} {x : FdT} (h : FdOk R C x) (hR : R ≤ 40000) (hC : C ≤ 40000) : FdB x := by
  have h1 := h.r; have h2 := h.c; have h3 := h.h; have h4 := h.w
  exact ⟨by omega, by omega, by omega, by omega⟩
theorem nr_in (x : Int) (q : Nat) : inR x (-(q : Int)) (q : Int) = decide ((x.natAbs : Int) ≤ (q : Nat)) := by
  unfold inR
  by_cases h : (x.natAbs : Int) ≤ (q : Nat)
  · rw [decide_eq_true h]; simp; omega
  · rw [decide_eq_false h]
    simp; omega
set_option maxRecDepth 100000 in
set_option maxHeartbeats 4000000 in
theorem near_any (a b : FdT) (w : World) (ha : FdB a) (hb : FdB b) :
    Calls Try.prog 49 #[.agg #[.int .i64 (a.r : Nat), .int .i64 (a.c : Nat), .int .i64 (a.h : Nat), .int .i64 (a.w : Nat)], .agg #[.int .i64 (b.r : Nat), .int .i64 (b.c : Nat), .int .i64 (b.h : Nat), .int .i64 (b.w : Nat)]] w fun e w' => e = .returned (.bool (nrF a b)) ∧ Below w.heap.size w w' := by
  obtain ⟨a1, a2, a3, a4⟩ := ha
  obtain ⟨b1, b2, b3, b4⟩ := hb
  obtain ⟨q, hq⟩ : ∃ q, (b.h + b.w) / 2 = q := ⟨_, rfl⟩
  have hqi : ((b.h : Int) + (b.w : Int)) / 2 = (q : Nat) := by omega
  have HN : Hid (nrF a b = (decide (((a.r : Int) - b.r).natAbs ≤ q) && decide (((a.c : Int) - b.c).natAbs ≤ q))) := Lib.hid (by
    unfold nrF; rw [hq]
    congr 1 <;> exact decide_eq_decide.2 Int.ofNat_le)
  by_cases h1 : ((a.r : Int) - b.r).natAbs ≤ q
  · have HN2 : Hid (nrF a b = decide (((a.c : Int) - b.c).natAbs ≤ q)) := Lib.hid (by rw [HN.out, decide_eq_true h1, Bool.true_and])
    have hd : decide (((a.r : Int) - b.r).natAbs ≤ q) = true := decide_eq_true h1
    go_enter Try.func49, Try.ntmps49
    go_wp2_with (go_at_call 73; refine (distance_any _ _ (by omega) (by omega)).mono ?_; rintro e1 w1 ⟨rfl, rfl⟩)
    go_ret
    exact ⟨ret_bool HN2.out.symm, by (repeat (first | (with_reducible assumption) | (with_reducible exact Below.refl _ _) | (with_reducible refine below_drewN' ?_ _) | (with_reducible refine Below.drew ?_) | ((with_reducible refine Below.alloc ?_ ?_ _); rotate_left; focus (first | (simp; done) | (simp; omega) | omega)) | ((with_reducible refine Below.setCell ?_ ?_ _); rotate_left; focus (first | (simp; done) | (simp; omega) | omega))))⟩
  · have HN2 : Hid (nrF a b = false) := Lib.hid (by rw [HN.out, decide_eq_false h1, Bool.false_and])
    have hd : decide (((a.r : Int) - b.r).natAbs ≤ q) = false := decide_eq_false h1
    go_enter Try.func49, Try.ntmps49
    go_wp2_with (go_at_call 73; refine (distance_any _ _ (by omega) (by omega)).mono ?_; rintro e1 w1 ⟨rfl, rfl⟩)
    go_ret
    exact ⟨ret_bool HN2.out.symm, by (repeat (first | (with_reducible assumption) | (with_reducible exact Below.refl _ _) | (with_reducible refine below_drewN' ?_ _) | (with_reducible refine Below.drew ?_) | ((with_reducible refine Below.alloc ?_ ?_ _); rotate_left; focus (first | (simp; done) | (simp; omega) | omega)) | ((with_reducible refine Below.setCell ?_ ?_ _); rotate_left; focus (first | (simp; done) | (simp; omega) | omega))))⟩
set_option maxRecDepth 100000 in
set_option maxHeartbeats 4000000 in
theorem SameFinder_any (a b : FdT) (w : World) (ha : FdB a) (hb : FdB b) :
    Calls Try.prog 22 #[.agg #[.int .i64 (a.r : Nat), .int .i64 (a.c : Nat), .int .i64 (a.h : Nat), .int .i64 (a.w : Nat)], .agg #[.int .i64 (b.r : Nat), .int .i64 (b.c : Nat), .int .i64 (b.h : Nat), .int .i64 (b.w : Nat)]] w fun e w' => e = .returned (.bool (nrF a b)) ∧ Below w.heap.size w w' := by
  have HNE := Lib.hid (fun w => near_any a b w ha hb)
  obtain ⟨a1, a2, a3, a4⟩ := ha
  obtain ⟨b1, b2, b3, b4⟩ := hb
  have hix0 : ∀ w, (Instr.index 81 (.agg #[.int .i64 (a.r : Nat), .int .i64 (a.c : Nat), .int .i64 (a.h : Nat), .int .i64 (a.w : Nat), .int .i64 (b.r : Nat), .int .i64 (b.c : Nat), .int .i64 (b.h : Nat), .int .i64 (b.w : Nat)]) (.int .i64 0)).run Try.prog w = .ok (.int .i64 (a.r : Nat)) w := fun w => by kernel_rfl
  have hix1 : ∀ w, (Instr.index 81 (.agg #[.int .i64 (a.r : Nat), .int .i64 (a.c : Nat), .int .i64 (a.h : Nat), .int .i64 (a.w : Nat), .int .i64 (b.r : Nat), .int .i64 (b.c : Nat), .int .i64 (b.h : Nat), .int .i64 (b.w : Nat)]) (.int .i64 1)).run Try.prog w = .ok (.int .i64 (a.c : Nat)) w := fun w => by kernel_rfl
  have hix2 : ∀ w, (Instr.index 81 (.agg #[.int .i64 (a.r : Nat), .int .i64 (a.c : Nat), .int .i64 (a.h : Nat), .int .i64 (a.w : Nat), .int .i64 (b.r : Nat), .int .i64 (b.c : Nat), .int .i64 (b.h : Nat), .int .i64 (b.w : Nat)]) (.int .i64 2)).run Try.prog w = .ok (.int .i64 (a.h : Nat)) w := fun w => by kernel_rfl
  have hix3 : ∀ w, (Instr.index 81 (.agg #[.int .i64 (a.r : Nat), .int .i64 (a.c : Nat), .int .i64 (a.h : Nat), .int .i64 (a.w : Nat), .int .i64 (b.r : Nat), .int .i64 (b.c : Nat), .int .i64 (b.h : Nat), .int .i64 (b.w : Nat)]) (.int .i64 3)).run Try.prog w = .ok (.int .i64 (a.w : Nat)) w := fun w => by kernel_rfl
  have hix4 : ∀ w, (Instr.index 81 (.agg #[.int .i64 (a.r : Nat), .int .i64 (a.c : Nat), .int .i64 (a.h : Nat), .int .i64 (a.w : Nat), .int .i64 (b.r : Nat), .int .i64 (b.c : Nat), .int .i64 (b.h : Nat), .int .i64 (b.w : Nat)]) (.int .i64 4)).run Try.prog w = .ok (.int .i64 (b.r : Nat)) w := fun w => by kernel_rfl
  have hix5 : ∀ w, (Instr.index 81 (.agg #[.int .i64 (a.r : Nat), .int .i64 (a.c : Nat), .int .i64 (a.h : Nat), .int .i64 (a.w : Nat), .int .i64 (b.r : Nat), .int .i64 (b.c : Nat), .int .i64 (b.h : Nat), .int .i64 (b.w : Nat)]) (.int .i64 5)).run Try.prog w = .ok (.int .i64 (b.c : Nat)) w := fun w => by kernel_rfl
  have hix6 : ∀ w, (Instr.index 81 (.agg #[.int .i64 (a.r : Nat), .int .i64 (a.c : Nat), .int .i64 (a.h : Nat), .int .i64 (a.w : Nat), .int .i64 (b.r : Nat), .int .i64 (b.c : Nat), .int .i64 (b.h : Nat), .int .i64 (b.w : Nat)]) (.int .i64 6)).run Try.prog w = .ok (.int .i64 (b.h : Nat)) w := fun w => by kernel_rfl
  have hix7 : ∀ w, (Instr.index 81 (.agg #[.int .i64 (a.r : Nat), .int .i64 (a.c : Nat), .int .i64 (a.h : Nat), .int .i64 (a.w : Nat), .int .i64 (b.r : Nat), .int .i64 (b.c : Nat), .int .i64 (b.h : Nat), .int .i64 (b.w : Nat)]) (.int .i64 7)).run Try.prog w = .ok (.int .i64 (b.w : Nat)) w := fun w => by kernel_rfl
  have hin0 : inR (a.r : Int) 0 80000 = true := inR_mk (by omega) (by omega)
  have hin1 : inR (a.c : Int) 0 80000 = true := inR_mk (by omega) (by omega)
  have hin2 : inR (a.h : Int) 0 80000 = true := inR_mk (by omega) (by omega)
  have hin3 : inR (a.w : Int) 0 80000 = true := inR_mk (by omega) (by omega)
  have hin4 : inR (b.r : Int) 0 80000 = true := inR_mk (by omega) (by omega)
  have hin5 : inR (b.c : Int) 0 80000 = true := inR_mk (by omega) (by omega)
  have hin6 : inR (b.h : Int) 0 80000 = true := inR_mk (by omega) (by omega)
  have hin7 : inR (b.w : Int) 0 80000 = true := inR_mk (by omega) (by omega)
  generalize nrF a b = R at *
  go_enter Try.func22, Try.ntmps22
  go_wp2_with fail
  refine wp_loop_rounds 9 ?_
  rw [rounds_succ]
  go_wp2_with (go_at_call 39; refine (inRange_any _ _ _ _).mono ?_; rintro e1 w1 ⟨rfl, rfl⟩)
  rw [rounds_succ]
  go_wp2_with (go_at_call 39; refine (inRange_any _ _ _ _).mono ?_; rintro e1 w1 ⟨rfl, rfl⟩)
  rw [rounds_succ]
  go_wp2_with (go_at_call 39; refine (inRange_any _ _ _ _).mono ?_; rintro e1 w1 ⟨rfl, rfl⟩)
  rw [rounds_succ]
  go_wp2_with (go_at_call 39; refine (inRange_any _ _ _ _).mono ?_; rintro e1 w1 ⟨rfl, rfl⟩)
  rw [rounds_succ]
  go_wp2_with (go_at_call 39; refine (inRange_any _ _ _ _).mono ?_; rintro e1 w1 ⟨rfl, rfl⟩)
  rw [rounds_succ]
  go_wp2_with (go_at_call 39; refine (inRange_any _ _ _ _).mono ?_; rintro e1 w1 ⟨rfl, rfl⟩)
  rw [rounds_succ]
  go_wp2_with (go_at_call 39; refine (inRange_any _ _ _ _).mono ?_; rintro e1 w1 ⟨rfl, rfl⟩)
  rw [rounds_succ]
  go_wp2_with (go_at_call 39; refine (inRange_any _ _ _ _).mono ?_; rintro e1 w1 ⟨rfl, rfl⟩)
  rw [rounds_succ]
  go_wp2_with (go_at_call 49; with_reducible refine (HNE.out _).mono ?_; rintro e2 w2 ⟨rfl, hb2⟩)
  go_ret
  exact ⟨rfl, below_then (by go_grown) (by simp; omega) hb2⟩
set_option maxRecDepth 100000 in
set_option maxHeartbeats 4000000 in
theorem sSameFinder_any (a b : FdT) (w : World) (ha : FdB a) (hb : FdB b) :
    Calls Try.prog 72 #[.agg #[.int .i64 (a.r : Nat), .int .i64 (a.c : Nat), .int .i64 (a.h : Nat), .int .i64 (a.w : Nat)], .agg #[.int .i64 (b.r : Nat), .int .i64 (b.c : Nat), .int .i64 (b.h : Nat), .int .i64 (b.w : Nat)]] w fun e w' => e = .returned (.bool (nrF a b)) ∧ Below w.heap.size w w' := by
  obtain ⟨a1, a2, a3, a4⟩ := ha
  obtain ⟨b1, b2, b3, b4⟩ := hb
  have hin0 : inR (a.r : Int) 0 80000 = true := inR_mk (by omega) (by omega)
  have hin1 : inR (a.c : Int) 0 80000 = true := inR_mk (by omega) (by omega)
  have hin2 : inR (a.h : Int) 0 80000 = true := inR_mk (by omega) (by omega)
  have hin3 : inR (a.w : Int) 0 80000 = true := inR_mk (by omega) (by omega)
  have hin4 : inR (b.r : Int) 0 80000 = true := inR_mk (by omega) (by omega)
  have hin5 : inR (b.c : Int) 0 80000 = true := inR_mk (by omega) (by omega)
  have hin6 : inR (b.h : Int) 0 80000 = true := inR_mk (by omega) (by omega)
  have hin7 : inR (b.w : Int) 0 80000 = true := inR_mk (by omega) (by omega)
  obtain ⟨q, hq⟩ : ∃ q, (b.h + b.w) / 2 = q := ⟨_, rfl⟩
  have hqi : ((b.h : Int) + (b.w : Int)) / 2 = (q : Nat) := by omega
  have HN : Hid (nrF a b = (inR ((a.r : Int) - b.r) (-(q : Int)) (q : Int) && inR ((a.c : Int) - b.c) (-(q : Int)) (q : Int))) := Lib.hid (by rw [nr_in, nr_in]; unfold nrF; rw [hq])
  generalize nrF a b = R at *
  cases h1 : inR ((a.r : Int) - b.r) (-(q : Int)) (q : Int)
  all_goals
    rw [h1] at HN
    have HN2 := Lib.hid (HN.out.symm)
    go_enter Try.func72, Try.ntmps72
    go_wp2_with fail
    refine wp_loop_rounds 9 ?_
    rw [rounds_succ]
    go_wp2_with (go_at_call 70; refine (l01In_any _ _ _ _).mono ?_; rintro e1 w1 ⟨rfl, rfl⟩)
    rw [rounds_succ]
    go_wp2_with (go_at_call 70; refine (l01In_any _ _ _ _).mono ?_; rintro e1 w1 ⟨rfl, rfl⟩)
    rw [rounds_succ]
    go_wp2_with (go_at_call 70; refine (l01In_any _ _ _ _).mono ?_; rintro e1 w1 ⟨rfl, rfl⟩)
    rw [rounds_succ]
    go_wp2_with (go_at_call 70; refine (l01In_any _ _ _ _).mono ?_; rintro e1 w1 ⟨rfl, rfl⟩)
    rw [rounds_succ]
    go_wp2_with (go_at_call 70; refine (l01In_any _ _ _ _).mono ?_; rintro e1 w1 ⟨rfl, rfl⟩)
    rw [rounds_succ]
    go_wp2_with (go_at_call 70; refine (l01In_any _ _ _ _).mono ?_; rintro e1 w1 ⟨rfl, rfl⟩)
    rw [rounds_succ]
    go_wp2_with (go_at_call 70; refine (l01In_any _ _ _ _).mono ?_; rintro e1 w1 ⟨rfl, rfl⟩)
    rw [rounds_succ]
    go_wp2_with (go_at_call 70; refine (l01In_any _ _ _ _).mono ?_; rintro e1 w1 ⟨rfl, rfl⟩)
    rw [rounds_succ]
    go_wp2_with (go_at_call 70; refine (l01In_any _ _ _ _).mono ?_; rintro e1 w1 ⟨rfl, rfl⟩)
    go_ret
    exact ⟨ret_bool (by rw [← HN2.out]; simp), by (repeat (first | (with_reducible assumption) | (with_reducible exact Below.refl _ _) | (with_reducible refine below_drewN' ?_ _) | (with_reducible refine Below.drew ?_) | ((with_reducible refine Below.alloc ?_ ?_ _); rotate_left; focus (first | (simp; done) | (simp; omega) | omega)) | ((with_reducible refine Below.setCell ?_ ?_ _); rotate_left; focus (first | (simp; done) | (simp; omega) | omega))))⟩
end Go.Proofs.Ytkipaefhnmfebaa
