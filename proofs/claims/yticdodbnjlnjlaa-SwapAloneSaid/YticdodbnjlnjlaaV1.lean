import Derived.StillTailTactics
import Derived.Test.YticdodbnjlnjlaaV0
namespace Go.Proofs.Yticdodbnjlnjlaa.P
open Go.RowKit Go.Proofs.YticdodbnjlnjlaaW.PrintWords Go.Proofs.YticdodbnjlnjlaaW.PrintLast Go.Proofs.YticdodbnjlnjlaaW.PrintMore
attribute [local go_sem] max2_int min2_int max_two min_two max_three min_three max_four min_four
attribute [local irreducible] Calls
set_option linter.unusedVariables false
set_option linter.unusedSimpArgs false
/-! A state of the document's machine, in memory. Labels: 0 At, 1 Began, 2 the registers, 4 Vars, 5 Atoms, 6 Locks, 8 Closed, 9 Groups, 10 Onces, 11 Told, 12 + c what channel c holds. -/
structure PV where
  pv : Int
  pa : Int
  pl : Int
  vC : Value
  pg : Int
  po : Int
  vT : Value
abbrev pCells (P : PV) : Array Value := #[.int .i64 P.pv, .int .i64 P.pa, .int .i64 P.pl, P.vC, .int .i64 P.pg, .int .i64 P.po, P.vT]
abbrev sCells (P : PV) (f : Nat → Value) (vR vQ : Value) (tr : Int) : Array Value := #[.int .i64 P.pv, .int .i64 P.pa, .int .i64 P.pl, P.vC, .int .i64 P.pg, .int .i64 P.po, P.vT, f 0, f 1, vR, f 4, f 5, f 6, vQ, f 8, f 9, f 10, f 11, .int .i64 tr]
abbrev iCells (i : S33) : Array Value := #[.int .u8 i.f0, .int .i64 i.f1, .int .i64 i.f2, .int .i64 i.f3]
def IS (w : World) (v : Value) (l : List Int) : Prop := ∃ A c, v = .slice A l.length c ∧ l.length ≤ c ∧ Kd.C (Kd.int .i64) w A l.length l
theorem IS.below {w w' : World} {v : Value} {l : List Int} (h : IS w v l) (hb : Below w.heap.size w w') : IS w' v l := by
  obtain ⟨A, c, e, h1, h2⟩ := h
  exact ⟨A, c, e, h1, Kd.C_below h2 hb⟩
theorem IS.of_R {w : World} {base : Nat} {ok : Nat → Prop} {v : Value} {l : List Int} (h : Kd.R (Kd.int .i64) 3 w base ok v l) : IS w v l := by
  obtain ⟨A, c, e, h1, h2⟩ := Kd.R_reads h
  exact ⟨A, c, e, h1, h2⟩
theorem IS.at {w : World} {v : Value} {l : List Int} (h : IS w v l) (i : Int) (h0 : 0 ≤ i) (h1 : i < (l.length : Int)) : ∃ ad c, v = .slice (some ad) l.length c ∧ w.cell? (ad.add i.toNat) = some (.int .i64 (rd l i)) := by
  obtain ⟨A, c, e, _, h2⟩ := h
  obtain ⟨ad, rfl, hc⟩ := Kd.at_int h2 i h0 h1
  exact ⟨ad, c, e, hc⟩
/-- The program of one thread. -/
structure PF (w : World) (P : PV) (code : List S33) (pc : List Int) : Prop where
  c : IS w P.vC pc
  t : ∃ adT cT Ac cc, P.vT = .slice (some adT) 1 cT ∧ 1 ≤ cT ∧ w.cell? adT = some (.slice Ac code.length cc) ∧ code.length ≤ cc ∧ Kd.C k33 w Ac code.length code
theorem PF.below {w w' : World} {P : PV} {code : List S33} {pc : List Int} (h : PF w P code pc) (hb : Below w.heap.size w w') : PF w' P code pc := by
  obtain ⟨adT, cT, Ac, cc, h1, h2, h3, h4, h5⟩ := h.t
  exact ⟨h.c.below hb, adT, cT, Ac, cc, h1, h2, pw_cell_below hb h3, h4, Kd.C_below h5 hb⟩
/-- A state that is read. -/
structure RS (w : World) (f : Nat → Value) (ls : Nat → List Int) (vR vQ : Value) (nq : Nat) : Prop where
  row : ∀ j, IS w (f j) (ls j)
  r : ∃ ad c, vR = .slice (some ad) 1 c ∧ 1 ≤ c ∧ w.cell? ad = some (f 2)
  q : ∃ A c, vQ = .slice A nq c ∧ nq ≤ c ∧ ∀ k, k < nq → ∃ ad, A = some ad ∧ w.cell? (ad.add k) = some (f (12 + k))
theorem RS.below {w w' : World} {f : Nat → Value} {ls : Nat → List Int} {vR vQ : Value} {nq : Nat} (h : RS w f ls vR vQ nq) (hb : Below w.heap.size w w') : RS w' f ls vR vQ nq := by
  obtain ⟨ad, c, e, h1, h2⟩ := h.r
  obtain ⟨A, cq, eq, h3, h4⟩ := h.q
  refine ⟨fun j => (h.row j).below hb, ⟨ad, c, e, h1, pw_cell_below hb h2⟩, A, cq, eq, h3, fun k hk => ?_⟩
  obtain ⟨ad, ea, hc⟩ := h4 k hk
  exact ⟨ad, ea, pw_cell_below hb hc⟩
def inR (n : Nat) (x : Int) : Prop := 0 ≤ x ∧ x < (n : Int)
/-- What an instruction's numbers must be. -/
structure okI (n : Nat) (ls : Nat → List Int) (i : S33) : Prop where
  o0 : 0 ≤ i.f0
  o1 : i.f0 ≤ 27
  go : i.f0 ≠ 12
  a2 : i.f0 ∈ [1, 2, 3, 4, 5, 6, 7, 9, 11, 17, 19, 21, 22, 26] → inR (ls 2).length i.f1
  b2 : i.f0 ∈ [2, 3, 4, 5, 6, 8, 18, 20] → inR (ls 2).length i.f2
  c2 : i.f0 ∈ [3, 4, 5, 6, 19, 22] → inR (ls 2).length i.f3
  v1 : i.f0 = 8 → inR (ls 4).length i.f1
  v2 : i.f0 = 7 → inR (ls 4).length i.f2
  j1 : i.f0 = 10 → 0 ≤ i.f1 ∧ i.f1 ≤ (n : Int)
  j2 : i.f0 = 11 → 0 ≤ i.f2 ∧ i.f2 ≤ (n : Int)
  l1 : i.f0 ∈ [13, 14, 15, 16] → inR (ls 6).length i.f1
  t1 : i.f0 = 18 → inR (ls 5).length i.f1
  t2 : i.f0 ∈ [17, 19] → inR (ls 5).length i.f2
  q1 : i.f0 ∈ [20, 23] → inR (ls 8).length i.f1
  q2 : i.f0 ∈ [21, 22] → inR (ls 8).length i.f2
  g1 : i.f0 ∈ [24, 25] → inR (ls 9).length i.f1
  e1 : i.f0 = 27 → inR (ls 10).length i.f1
  e2 : i.f0 = 26 → inR (ls 10).length i.f2
def blockedF (pc : List Int) (ls : Nat → List Int) (i : S33) : Bool :=
  if i.f0 = 13 then rd (ls 6) i.f1 != 0 else if i.f0 = 15 then rd (ls 6) i.f1 == -1
  else if i.f0 = 20 then decide (rd (ls 8) i.f1 = 0) && decide (((ls (12 + i.f1.toNat)).length : Int) = rd pc i.f1)
  else if i.f0 = 21 then decide (rd (ls 8) i.f2 = 0) && decide (((ls (12 + i.f2.toNat)).length : Int) = 0)
  else if i.f0 = 25 then decide (0 < rd (ls 9) i.f1) else if i.f0 = 26 then rd (ls 10) i.f2 == 1 else false
def RetB (w : World) (b : Bool) (e : Ending) (w' : World) : Prop := e = .returned (.bool b) ∧ Below w.heap.size w w'
set_option maxHeartbeats 4000000 in
set_option maxRecDepth 100000 in
theorem blocked_any (P : PV) (f : Nat → Value) (ls : Nat → List Int) (vR vQ : Value) (nq : Nat) (tr : Int) (code : List S33) (pc : List Int) (i : S33) (w : World) (hP : PF w P code pc) (h : RS w f ls vR vQ nq) (hi : okI code.length ls i) (h8 : (ls 8).length = nq) (hpc : pc.length = nq) :
    Calls Try.prog 61 #[.agg (sCells P f vR vQ tr), .agg (iCells i)] w (RetB w (blockedF pc ls i)) := by
  obtain ⟨o, a, b, c⟩ := i
  have HP := am hP
  have HS := am h
  have HI := am hi
  have H8 := am h8
  have HPC := am hpc
  clear hP h hi h8 hpc
  have HB := am (below_alloc (below_alloc (Below.refl w.heap.size w) (.cells (sCells P f vR vQ tr) 70)) (.cells (iCells ⟨o, a, b, c⟩) 33))
  by_cases c13 : o = 13
  · subst c13
    obtain ⟨h0, h1⟩ := HI.out.l1 (by simp)
    obtain ⟨ad, cp, e, hc⟩ := (HS.out.row 6).at a h0 h1
    have hc := pw_cell_below HB.out hc
    have p0 := eq_true h0
    have p1 := eq_true h1
    unfold blockedF
    simp only [sCells, iCells] at hc ⊢
    rw [e] at hc ⊢
    clear h0 h1
    go_enter Try.func61, Try.ntmps61
    go_wp2
    go_ret
    exact ⟨rfl, below_alloc (below_alloc (Below.refl _ _) _) _⟩
  by_cases c15 : o = 15
  · subst c15
    obtain ⟨h0, h1⟩ := HI.out.l1 (by simp)
    obtain ⟨ad, cp, e, hc⟩ := (HS.out.row 6).at a h0 h1
    have hc := pw_cell_below HB.out hc
    have p0 := eq_true h0
    have p1 := eq_true h1
    unfold blockedF
    simp only [sCells, iCells] at hc ⊢
    rw [e] at hc ⊢
    clear h0 h1
    go_enter Try.func61, Try.ntmps61
    go_wp2
    go_ret
    exact ⟨rfl, below_alloc (below_alloc (Below.refl _ _) _) _⟩
  by_cases c25 : o = 25
  · subst c25
    obtain ⟨h0, h1⟩ := HI.out.g1 (by simp)
    obtain ⟨ad, cp, e, hc⟩ := (HS.out.row 9).at a h0 h1
    have hc := pw_cell_below HB.out hc
    have p0 := eq_true h0
    have p1 := eq_true h1
    unfold blockedF
    simp only [sCells, iCells] at hc ⊢
    rw [e] at hc ⊢
    clear h0 h1
    go_enter Try.func61, Try.ntmps61
    go_wp2
    go_ret
    exact ⟨rfl, below_alloc (below_alloc (Below.refl _ _) _) _⟩
  by_cases c26 : o = 26
  · subst c26
    obtain ⟨h0, h1⟩ := HI.out.e2 (by simp)
    obtain ⟨ad, cp, e, hc⟩ := (HS.out.row 10).at b h0 h1
    have hc := pw_cell_below HB.out hc
    have p0 := eq_true h0
    have p1 := eq_true h1
    unfold blockedF
    simp only [sCells, iCells] at hc ⊢
    rw [e] at hc ⊢
    clear h0 h1
    go_enter Try.func61, Try.ntmps61
    go_wp2
    go_ret
    exact ⟨rfl, below_alloc (below_alloc (Below.refl _ _) _) _⟩
  obtain ⟨r, hr⟩ : ∃ r, r = blockedF pc ls ⟨o, a, b, c⟩ := ⟨_, rfl⟩
  rw [← hr]
  have HR := am hr
  clear hr
  by_cases c20 : o = 20
  · subst c20
    obtain ⟨h0, h1⟩ := HI.out.q1 (by simp)
    rw [H8.out] at h1
    replace h0 : 0 ≤ a := h0
    replace h1 : a < (nq : Int) := h1
    obtain ⟨ad, cp, e, hc⟩ := (HS.out.row 8).at a h0 (by rw [H8.out]; exact h1)
    obtain ⟨AQ, cQ, eq, _, hq⟩ := HS.out.q
    obtain ⟨adQ, eaQ, hcq⟩ := hq a.toNat (by omega)
    obtain ⟨AK, cK, eK, _, _⟩ := HS.out.row (12 + a.toNat)
    obtain ⟨adC, cC, eC, hcc⟩ := HP.out.c.at a h0 (by rw [HPC.out]; exact h1)
    rw [eK] at hcq
    subst eaQ
    have hc := pw_cell_below HB.out hc
    have hcq := pw_cell_below HB.out hcq
    have hcc := pw_cell_below HB.out hcc
    have p0 := eq_true h0
    have p1 := eq_true h1
    simp only [sCells, iCells] at hc hcq hcc ⊢
    rw [e, eC, eq, H8.out] at hc hcq hcc ⊢
    rw [HPC.out] at hc hcq hcc ⊢
    clear h0 h1
    by_cases hz : rd (ls 8) a = 0
    · rw [hz] at hc
      have HE : Aside0 (r = (((ls (12 + a.toNat)).length : Int) == rd pc a)) := ⟨by rw [HR.out]; show (decide (rd (ls 8) a = 0) && decide (((ls (12 + a.toNat)).length : Int) = rd pc a)) = _; rw [decide_eq_true hz]; rfl⟩
      clear hz
      go_enter Try.func61, Try.ntmps61
      go_wp2
      go_quiet (fail)
      go_wp2
      go_ret
      exact ⟨by rw [HE.out]; rfl, pw_below_drewN (below_alloc (below_alloc (Below.refl _ _) _) _) _⟩
    · have hb : (rd (ls 8) a == 0) = false := beq_eq_false_iff_ne.2 hz
      have HE : Aside0 (r = false) := ⟨by rw [HR.out]; show (decide (rd (ls 8) a = 0) && decide (((ls (12 + a.toNat)).length : Int) = rd pc a)) = _; rw [decide_eq_false hz]; rfl⟩
      clear hz
      go_enter Try.func61, Try.ntmps61
      go_wp2
      go_quiet (fail)
      go_wp2
      go_ret
      exact ⟨by rw [HE.out]; rfl, pw_below_drewN (below_alloc (below_alloc (Below.refl _ _) _) _) _⟩
  by_cases c21 : o = 21
  · subst c21
    obtain ⟨h0, h1⟩ := HI.out.q2 (by simp)
    rw [H8.out] at h1
    replace h0 : 0 ≤ b := h0
    replace h1 : b < (nq : Int) := h1
    obtain ⟨ad, cp, e, hc⟩ := (HS.out.row 8).at b h0 (by rw [H8.out]; exact h1)
    obtain ⟨AQ, cQ, eq, _, hq⟩ := HS.out.q
    obtain ⟨adQ, eaQ, hcq⟩ := hq b.toNat (by omega)
    obtain ⟨AK, cK, eK, _, _⟩ := HS.out.row (12 + b.toNat)
    rw [eK] at hcq
    subst eaQ
    have hc := pw_cell_below HB.out hc
    have hcq := pw_cell_below HB.out hcq
    have p0 := eq_true h0
    have p1 := eq_true h1
    simp only [sCells, iCells] at hc hcq ⊢
    rw [e, eq, H8.out] at hc hcq ⊢
    clear h0 h1
    by_cases hz : rd (ls 8) b = 0
    · rw [hz] at hc
      have HE : Aside0 (r = (((ls (12 + b.toNat)).length : Int) == 0)) := ⟨by rw [HR.out]; show (decide (rd (ls 8) b = 0) && decide (((ls (12 + b.toNat)).length : Int) = 0)) = _; rw [decide_eq_true hz]; rfl⟩
      clear hz
      go_enter Try.func61, Try.ntmps61
      go_wp2
      go_ret
      exact ⟨by rw [HE.out]; rfl, below_alloc (below_alloc (Below.refl _ _) _) _⟩
    · have hb : (rd (ls 8) b == 0) = false := beq_eq_false_iff_ne.2 hz
      have HE : Aside0 (r = false) := ⟨by rw [HR.out]; show (decide (rd (ls 8) b = 0) && decide (((ls (12 + b.toNat)).length : Int) = 0)) = _; rw [decide_eq_false hz]; rfl⟩
      clear hz
      go_enter Try.func61, Try.ntmps61
      go_wp2
      go_ret
      exact ⟨by rw [HE.out]; rfl, below_alloc (below_alloc (Below.refl _ _) _) _⟩
  have b13 : (o == 13) = false := beq_eq_false_iff_ne.2 c13
  have b15 : (o == 15) = false := beq_eq_false_iff_ne.2 c15
  have b20 : (o == 20) = false := beq_eq_false_iff_ne.2 c20
  have b21 : (o == 21) = false := beq_eq_false_iff_ne.2 c21
  have b25 : (o == 25) = false := beq_eq_false_iff_ne.2 c25
  have b26 : (o == 26) = false := beq_eq_false_iff_ne.2 c26
  have HE : Aside0 (r = false) := ⟨by rw [HR.out]; unfold blockedF; rw [if_neg c13, if_neg c15, if_neg c20, if_neg c21, if_neg c25, if_neg c26]⟩
  simp only [sCells, iCells]
  clear c13 c15 c20 c21 c25 c26
  go_enter Try.func61, Try.ntmps61
  go_wp2
  go_ret
  exact ⟨by rw [HE.out]; rfl, below_alloc (below_alloc (Below.refl _ _) _) _⟩

def atOf (ls : Nat → List Int) : Nat := (rd (ls 0) 0).toNat
/-- What stays the same of a state while it goes on. -/
structure SI (nc : Nat) (code : List S33) (pc : List Int) (ls : Nat → List Int) : Prop where
  h0 : (ls 0).length = 1
  h1 : ls 1 = [1]
  h2 : (ls 2).length = 4
  h8 : (ls 8).length = nc
  hpc : pc.length = nc
  at0 : 0 ≤ rd (ls 0) 0
  ok : ∀ i, i < code.length → okI code.length ls (code.getD i z33)
  len : code.length ≤ 60
def canF (code : List S33) (pc : List Int) (ls : Nat → List Int) (tr : Int) : Bool := if code.length ≤ atOf ls then false else if tr = 1 then false else !blockedF pc ls (code.getD (atOf ls) z33)
theorem sc {w : World} {g t : Nat} {P : PV} {f : Nat → Value} {vR vQ : Value} {tr : Int} (h : w.heap[g]? = some (.cells (sCells P f vR vQ tr) t (0, 0))) :
    w.cell? ⟨g, 0, none⟩ = some (.int .i64 P.pv) ∧ w.cell? ⟨g, 1, none⟩ = some (.int .i64 P.pa) ∧ w.cell? ⟨g, 2, none⟩ = some (.int .i64 P.pl) ∧ w.cell? ⟨g, 3, none⟩ = some P.vC ∧ w.cell? ⟨g, 4, none⟩ = some (.int .i64 P.pg) ∧ w.cell? ⟨g, 5, none⟩ = some (.int .i64 P.po) ∧ w.cell? ⟨g, 6, none⟩ = some P.vT ∧ w.cell? ⟨g, 7, none⟩ = some (f 0) ∧ w.cell? ⟨g, 8, none⟩ = some (f 1) ∧ w.cell? ⟨g, 9, none⟩ = some vR ∧ w.cell? ⟨g, 10, none⟩ = some (f 4) ∧ w.cell? ⟨g, 11, none⟩ = some (f 5) ∧ w.cell? ⟨g, 12, none⟩ = some (f 6) ∧ w.cell? ⟨g, 13, none⟩ = some vQ ∧ w.cell? ⟨g, 14, none⟩ = some (f 8) ∧ w.cell? ⟨g, 15, none⟩ = some (f 9) ∧ w.cell? ⟨g, 16, none⟩ = some (f 10) ∧ w.cell? ⟨g, 17, none⟩ = some (f 11) ∧ w.cell? ⟨g, 18, none⟩ = some (.int .i64 tr) :=
  ⟨(blk_cell h 0).trans rfl, (blk_cell h 1).trans rfl, (blk_cell h 2).trans rfl, (blk_cell h 3).trans rfl, (blk_cell h 4).trans rfl, (blk_cell h 5).trans rfl, (blk_cell h 6).trans rfl, (blk_cell h 7).trans rfl, (blk_cell h 8).trans rfl, (blk_cell h 9).trans rfl, (blk_cell h 10).trans rfl, (blk_cell h 11).trans rfl, (blk_cell h 12).trans rfl, (blk_cell h 13).trans rfl, (blk_cell h 14).trans rfl, (blk_cell h 15).trans rfl, (blk_cell h 16).trans rfl, (blk_cell h 17).trans rfl, (blk_cell h 18).trans rfl⟩
theorem IS.at1 {w : World} {v : Value} {l : List Int} (h : IS w v l) (hl : l.length = 1) : ∃ ad c, v = .slice (some ad) 1 c ∧ w.cell? ad = some (.int .i64 (rd l 0)) := by
  obtain ⟨ad, c, e, hc⟩ := h.at 0 (Int.le_refl _) (by omega)
  rw [hl] at e
  exact ⟨ad, c, e, hc⟩

theorem exec_load_row {Pp : Program} {o : Oper} {ev : Operand → Value} {w : World} (ty : TypeId) (x : Operand) (ho : o.op = .load ty x) (g : Nat) (hx : ev x = .pointer (some ⟨g, 0, none⟩)) (t : TypeId) (cs : Array Value) (fr : Nat × Nat) (d : TypeDesc) (hg : w.heap[g]? = some (.cells cs t fr))
    (hu : Pp.underlying ty = some d) (hd : (match d with | .struct _ | .array _ _ => true | _ => false) = true) (hi : (Pp.info? ty).map (·.size) = some cs.size) : (execOp ev o).run Pp w = .ok (.value (.agg cs)) w := by
  unfold execOp
  simp only [ho, hx, Instr.loadAt, Instr.sureAddr, Sem.run_bind, Sem.run_pure, Result.andThen_ok, run_loadVar_row w g t ty cs fr d hg hu hd hi]
theorem size70 : (Try.prog.info? 70).map (·.size) = some 19 := by kernel_rfl
theorem size33 : (Try.prog.info? 33).map (·.size) = some 4 := by kernel_rfl
theorem size75 : (Try.prog.info? 75).map (·.size) = some 6 := by kernel_rfl
theorem canT3 : rtab .any (opsOf Try.f52 3) = (true, [([], []), ([], []), ([1], [1]), ([2], [2]), ([], []), ([3, 4], [3, 4]), ([5], [5]), ([], []), ([7], [7]), ([], []), ([8, 9], [8, 9]), ([10], [10]), ([6, 11], [6, 11]), ([12], [12]), ([0, 13], [0, 13]), ([14], [14]), ([15, 14, 0, 1, 2, 3, 4, 5, 6, 7, 8, 9, 10, 11, 12, 13, 14, 15], [15])]) := by kernel_rfl
set_option maxHeartbeats 8000000 in
set_option maxRecDepth 100000 in
theorem can_any (P : PV) (f : Nat → Value) (ls : Nat → List Int) (vR vQ : Value) (nc : Nat) (tr : Int) (code : List S33) (pc : List Int) (w : World) (hP : PF w P code pc) (h : RS w f ls vR vQ nc) (hI : SI nc code pc ls) :
    Calls Try.prog 52 #[.agg (sCells P f vR vQ tr), .int .i64 0] w (RetB w (canF code pc ls tr)) := by
  have HP := am hP
  have HS := am h
  have HSI := am hI
  clear hP h hI
  have h0 := (HS.out.row 0).at1 HSI.out.h0
  have h1 := (HS.out.row 1).at1 (by rw [HSI.out.h1]; rfl)
  obtain ⟨a0, c0, e0, hc0⟩ := h0
  obtain ⟨a1, c1, e1, hc1⟩ := h1
  have e11 : rd (ls 1) 0 = 1 := by rw [HSI.out.h1]; rfl
  rw [e11] at hc1
  obtain ⟨aT, cT, Ac, cc, eT, _, hct, hcn, hC⟩ := HP.out.t
  have HCC := am hC
  have HSC : sCells P f vR vQ tr = #[.int .i64 P.pv, .int .i64 P.pa, .int .i64 P.pl, P.vC, .int .i64 P.pg, .int .i64 P.po, .slice (some aT) 1 cT, .slice (some a0) 1 c0, .slice (some a1) 1 c1, vR, f 4, f 5, f 6, vQ, f 8, f 9, f 10, f 11, .int .i64 tr] := by
    unfold sCells; rw [eT, e0, e1]
  obtain ⟨r, hr⟩ : ∃ r, r = canF code pc ls tr := ⟨_, rfl⟩
  rw [← hr]
  have HR := am hr
  clear hr hcn hC e11
  have HE0 := am e0
  have HE1 := am e1
  have HET := am eT
  clear e0 e1 eT
  rw [HSC]
  have HSC := am HSC
  go_enter Try.func52, Try.ntmps52
  go_upto_region 0 with (fail)
  go_cut [2, 4] (fun v2 v4 wc => (v2 = .pointer (some ⟨w.heap.size, 0, none⟩) ∧ v4 = .bool false) ∧ Aside0 (wc.heap[w.heap.size]? = some (.cells (sCells P f vR vQ tr) 70 (0, 0))) ∧ Aside0 (Below w.heap.size w wc))
  case first =>
    go_wp2
    go_meet
    rw [HSC.out]
    exact ⟨⟨rfl, rfl⟩, ⟨blk_new w _⟩, ⟨below_alloc (Below.refl _ _) _⟩⟩
  obtain ⟨⟨rfl, rfl⟩, HX, HB⟩ := hcut
  have HX2 : Aside0 (wc.heap[w.heap.size]? = some (.cells #[.int .i64 P.pv, .int .i64 P.pa, .int .i64 P.pl, P.vC, .int .i64 P.pg, .int .i64 P.po, .slice (some aT) 1 cT, .slice (some a0) 1 c0, .slice (some a1) 1 c1, vR, f 4, f 5, f 6, vQ, f 8, f 9, f 10, f 11, .int .i64 tr] 70 (0, 0))) := ⟨by rw [← HSC.out]; exact HX.out⟩
  have k6 := (blk_cell HX2.out 6).trans rfl
  have k7 := (blk_cell HX2.out 7).trans rfl
  have k8 := (blk_cell HX2.out 8).trans rfl
  have k18 := (blk_cell HX2.out 18).trans rfl
  have hc0 := pw_cell_below HB.out hc0
  have hc1 := pw_cell_below HB.out hc1
  have hct := pw_cell_below HB.out hct
  have HZ := am (show wc.heap[w.heap.size]? = some (.cells (sCells P f vR vQ tr) 70 (0, 0)) from HX.out)
  clear HX
  by_cases hA : (code.length : Int) ≤ rd (ls 0) 0
  · as_aux_lemma =>
      have HE : Aside0 (r = false) := ⟨by rw [HR.out]; unfold canF; rw [if_pos (show code.length ≤ atOf ls by unfold atOf; omega)]⟩
      have p0 := eq_true hA
      clear hA
      go_wp2
      go_quiet (fail)
      go_wp2
      go_ret
      exact ⟨by rw [HE.out]; rfl, pw_below_drewN HB.out _⟩
  have p0 := eq_false hA
  by_cases hT : tr = 1
  · as_aux_lemma =>
      subst hT
      have HE : Aside0 (r = false) := ⟨by rw [HR.out]; unfold canF; rw [if_pos rfl, ite_self]⟩
      clear hA
      go_wp2
      go_quiet (fail)
      go_wp2
      go_ret
      exact ⟨by rw [HE.out]; rfl, pw_below_drewN HB.out _⟩
  · as_aux_lemma =>
      have hA2 : rd (ls 0) 0 < (code.length : Int) := by omega
      have hn : atOf ls < code.length := by have := HSI.out.at0; unfold atOf; omega
      have HE : Aside0 (r = !blockedF pc ls (code.getD (atOf ls) z33)) := ⟨by rw [HR.out]; unfold canF; rw [if_neg (by omega), if_neg hT]⟩
      have HOK := am (HSI.out.ok _ hn)
      have b18 : (tr == 1) = false := beq_eq_false_iff_ne.2 hT
      clear hT
      obtain ⟨ac, rfl, hi0, hi1, hi2, hi3⟩ := at_T33 HCC.out (rd (ls 0) 0) HSI.out.at0 hA2
      have hi0 := pw_cell_below HB.out hi0
      have hi1 := pw_cell_below HB.out hi1
      have hi2 := pw_cell_below HB.out hi2
      have hi3 := pw_cell_below HB.out hi3
      have pp0 := eq_true HSI.out.at0
      have pp1 := eq_true hA2
      clear hA hA2 hn
      go_wp2
      go_quiet (fail)
      go_wp2
      have HBD : Aside0 (Below wc.heap.size wc (wc.drewN nq)) := ⟨pw_below_drewN (Below.refl _ _) _⟩
      generalize wc.drewN nq = wd at HBD ⊢
      have HXd := am (blk_below HX2.out HBD.out)
      have HZd := am (blk_below HZ.out HBD.out)
      have HPd := am ((HP.out.below HB.out).below HBD.out)
      have HRd := am ((HS.out.below HB.out).below HBD.out)
      have hct := pw_cell_below HBD.out hct
      have hca := pw_cell_below HBD.out hc0
      have hi0 := pw_cell_below HBD.out hi0
      have hi1 := pw_cell_below HBD.out hi1
      have hi2 := pw_cell_below HBD.out hi2
      have hi3 := pw_cell_below HBD.out hi3
      refine start_ (n := 17) (S := fun w' => Below wd.heap.size wd w') (ds := []) #[false, false, false, false, false, false, false, false, false, false, false, false, false, false, false, false, false] (by kernel_rfl) rfl rfl (below_drew (Below.refl _ _)) (fun hHeld => ?_)
      refine with_tab canT3 (fun HT_ => ?_)
      refine take_ (i := 0) (N := some 42) (v := .agg (sCells P f vR vQ tr)) (a' := ?_) #[true, false, false, false, false, false, false, false, false, false, false, false, false, false, false, false, false] rfl rfl (take_of HT_.out (by kernel_rfl)) (fun _ _ _ h => h) (Or.inl ⟨by rfl, fun w' hS' => exec_load_row 70 (.tmp 2) rfl w.heap.size rfl 70 (sCells P f vR vQ tr) (0, 0) _ (blk_below HZd.out hS') Try.underlying70 rfl size70⟩) hHeld ?_ ?_
      rotate_left
      · (try simp only [Act.put, List.setIfInBounds_toArray, List.set_cons_zero, List.set_cons_succ, i64_w, i32_w]); rfl
      refine pure_ (i := 1) (N := some 43) (v := ?_) (a' := ?_) #[true, true, false, false, false, false, false, false, false, false, false, false, false, false, false, false, false] rfl rfl (any_of HT_.out (by kernel_rfl)) (fun _ _ _ h => h) (Or.inl ⟨by rfl, ?_⟩) ?_ ?_
      rotate_left
      · intro w'
        go_simp
        with_reducible rfl
      rotate_left
      · (try simp only [Act.put, List.setIfInBounds_toArray, List.set_cons_zero, List.set_cons_succ, i64_w, i32_w]); rfl
      refine pure_ (i := 2) (N := some 44) (v := ?_) (a' := ?_) #[true, true, true, false, false, false, false, false, false, false, false, false, false, false, false, false, false] rfl rfl (any_of HT_.out (by kernel_rfl)) (fun _ _ _ h => h) (Or.inl ⟨by rfl, ?_⟩) ?_ ?_
      rotate_left
      · intro w'
        go_simp
        with_reducible rfl
      rotate_left
      · (try simp only [Act.put, List.setIfInBounds_toArray, List.set_cons_zero, List.set_cons_succ, i64_w, i32_w]); rfl
      refine take_ (i := 3) (N := some 45) (v := ?_) (a' := ?_) #[true, true, true, true, false, false, false, false, false, false, false, false, false, false, false, false, false] rfl rfl (take_of HT_.out (by kernel_rfl)) (fun _ _ _ h => h) (Or.inl ⟨by rfl, ?_⟩) hHeld ?_ ?_
      rotate_left
      · intro w' hS'
        have s6 := (blk_cell (blk_below HXd.out hS') 6).trans rfl
        go_simp
        with_reducible rfl
      rotate_left
      · (try simp only [Act.put, List.setIfInBounds_toArray, List.set_cons_zero, List.set_cons_succ, i64_w, i32_w]); rfl
      refine pure_ (i := 4) (N := some 46) (v := ?_) (a' := ?_) #[true, true, true, true, true, false, false, false, false, false, false, false, false, false, false, false, false] rfl rfl (any_of HT_.out (by kernel_rfl)) (fun _ _ _ h => h) (Or.inl ⟨by rfl, ?_⟩) ?_ ?_
      rotate_left
      · intro w'
        go_simp
        with_reducible rfl
      rotate_left
      · (try simp only [Act.put, List.setIfInBounds_toArray, List.set_cons_zero, List.set_cons_succ, i64_w, i32_w]); rfl
      refine pure_ (i := 5) (N := some 47) (v := ?_) (a' := ?_) #[true, true, true, true, true, true, false, false, false, false, false, false, false, false, false, false, false] rfl rfl (any_of HT_.out (by kernel_rfl)) (fun _ _ _ h => h) (Or.inl ⟨by rfl, ?_⟩) ?_ ?_
      rotate_left
      · intro w'
        go_simp
        with_reducible rfl
      rotate_left
      · (try simp only [Act.put, List.setIfInBounds_toArray, List.set_cons_zero, List.set_cons_succ, i64_w, i32_w]); rfl
      refine take_ (i := 6) (N := some 48) (v := ?_) (a' := ?_) #[true, true, true, true, true, true, true, false, false, false, false, false, false, false, false, false, false] rfl rfl (take_of HT_.out (by kernel_rfl)) (fun _ _ _ h => h) (Or.inl ⟨by rfl, ?_⟩) hHeld ?_ ?_
      rotate_left
      · intro w' hS'
        have ct := pw_cell_below hS' hct
        go_simp
        with_reducible rfl
      rotate_left
      · (try simp only [Act.put, List.setIfInBounds_toArray, List.set_cons_zero, List.set_cons_succ, i64_w, i32_w]); rfl
      refine pure_ (i := 7) (N := some 49) (v := ?_) (a' := ?_) #[true, true, true, true, true, true, true, true, false, false, false, false, false, false, false, false, false] rfl rfl (any_of HT_.out (by kernel_rfl)) (fun _ _ _ h => h) (Or.inl ⟨by rfl, ?_⟩) ?_ ?_
      rotate_left
      · intro w'
        go_simp
        with_reducible rfl
      rotate_left
      · (try simp only [Act.put, List.setIfInBounds_toArray, List.set_cons_zero, List.set_cons_succ, i64_w, i32_w]); rfl
      refine take_ (i := 8) (N := some 50) (v := ?_) (a' := ?_) #[true, true, true, true, true, true, true, true, true, false, false, false, false, false, false, false, false] rfl rfl (take_of HT_.out (by kernel_rfl)) (fun _ _ _ h => h) (Or.inl ⟨by rfl, ?_⟩) hHeld ?_ ?_
      rotate_left
      · intro w' hS'
        have s7 := (blk_cell (blk_below HXd.out hS') 7).trans rfl
        go_simp
        with_reducible rfl
      rotate_left
      · (try simp only [Act.put, List.setIfInBounds_toArray, List.set_cons_zero, List.set_cons_succ, i64_w, i32_w]); rfl
      refine pure_ (i := 9) (N := some 51) (v := ?_) (a' := ?_) #[true, true, true, true, true, true, true, true, true, true, false, false, false, false, false, false, false] rfl rfl (any_of HT_.out (by kernel_rfl)) (fun _ _ _ h => h) (Or.inl ⟨by rfl, ?_⟩) ?_ ?_
      rotate_left
      · intro w'
        go_simp
        with_reducible rfl
      rotate_left
      · (try simp only [Act.put, List.setIfInBounds_toArray, List.set_cons_zero, List.set_cons_succ, i64_w, i32_w]); rfl
      refine pure_ (i := 10) (N := some 52) (v := ?_) (a' := ?_) #[true, true, true, true, true, true, true, true, true, true, true, false, false, false, false, false, false] rfl rfl (any_of HT_.out (by kernel_rfl)) (fun _ _ _ h => h) (Or.inl ⟨by rfl, ?_⟩) ?_ ?_
      rotate_left
      · intro w'
        go_simp
        with_reducible rfl
      rotate_left
      · (try simp only [Act.put, List.setIfInBounds_toArray, List.set_cons_zero, List.set_cons_succ, i64_w, i32_w]); rfl
      refine take_ (i := 11) (N := some 53) (v := ?_) (a' := ?_) #[true, true, true, true, true, true, true, true, true, true, true, true, false, false, false, false, false] rfl rfl (take_of HT_.out (by kernel_rfl)) (fun _ _ _ h => h) (Or.inl ⟨by rfl, ?_⟩) hHeld ?_ ?_
      rotate_left
      · intro w' hS'
        have ca := pw_cell_below hS' hca
        go_simp
        with_reducible rfl
      rotate_left
      · (try simp only [Act.put, List.setIfInBounds_toArray, List.set_cons_zero, List.set_cons_succ, i64_w, i32_w]); rfl
      refine pure_ (i := 12) (N := some 54) (v := ?_) (a' := ?_) #[true, true, true, true, true, true, true, true, true, true, true, true, true, false, false, false, false] rfl rfl (any_of HT_.out (by kernel_rfl)) (fun _ _ _ h => h) (Or.inl ⟨by rfl, ?_⟩) ?_ ?_
      rotate_left
      · intro w'
        go_simp
        with_reducible rfl
      rotate_left
      · (try simp only [Act.put, List.setIfInBounds_toArray, List.set_cons_zero, List.set_cons_succ, i64_w, i32_w]); rfl
      refine take_ (i := 13) (N := some 55) (v := ?_) (a' := ?_) #[true, true, true, true, true, true, true, true, true, true, true, true, true, true, false, false, false] rfl rfl (take_of HT_.out (by kernel_rfl)) (fun _ _ _ h => h) (Or.inl ⟨by rfl, ?_⟩) hHeld ?_ ?_
      rotate_left
      · intro w' hS'
        have i0 := pw_cell_below hS' hi0
        have i1 := pw_cell_below hS' hi1
        have i2 := pw_cell_below hS' hi2
        have i3 := pw_cell_below hS' hi3
        go_simp
        with_reducible rfl
      rotate_left
      · (try simp only [Act.put, List.setIfInBounds_toArray, List.set_cons_zero, List.set_cons_succ, i64_w, i32_w]); rfl
      refine one_ (i := 14) (N := some 56) #[true, true, true, true, true, true, true, true, true, true, true, true, true, true, true, false, false] rfl rfl (one_of HT_.out (by kernel_rfl)) (by decide) (fun K hK => ?_)
      refine call_ 61 #[.agg (sCells P f vR vQ tr), .agg (iCells (code.getD (atOf ls) z33))] (by rfl) rfl ?hr ?_
      case hr => go_simp; try exact ⟨rfl, rfl, rfl, rfl⟩
      refine (blocked_any P f ls vR vQ nc tr code pc (code.getD (atOf ls) z33) _ (HPd.out.below hHeld) (HRd.out.below hHeld) HOK.out HSI.out.h8 HSI.out.hpc).mono ?_
      rintro e wq ⟨rfl, hb⟩
      have HBq := am (below_step hHeld hb)
      clear hb
      refine ⟨_, rfl, ?_⟩
      refine hK.out _ _ (HBq.out) (fun hHeld => ?_)
      clear hK K
      refine norm_ (a' := ?_) ?_ ?_
      rotate_left
      · show Act.put _ (some 56) _ = _
        simp only [Act.put, List.setIfInBounds_toArray, List.set_cons_zero, List.set_cons_succ, i64_w, i32_w]
        rfl
      refine pure_ (i := 15) (N := some 57) (v := ?_) (a' := ?_) #[true, true, true, true, true, true, true, true, true, true, true, true, true, true, true, true, false] rfl rfl (any_of HT_.out (by kernel_rfl)) (fun _ _ _ h => h) (Or.inl ⟨by rfl, ?_⟩) ?_ ?_
      rotate_left
      · intro w'
        go_simp
        with_reducible rfl
      rotate_left
      · (try simp only [Act.put, List.setIfInBounds_toArray, List.set_cons_zero, List.set_cons_succ, i64_w, i32_w]); rfl
      refine pure_ (i := 16) (N := some 4) (v := ?_) (a' := ?_) #[true, true, true, true, true, true, true, true, true, true, true, true, true, true, true, true, true] rfl rfl (any_of HT_.out (by kernel_rfl)) (fun _ _ _ h => h) (Or.inl ⟨by rfl, ?_⟩) ?_ ?_
      rotate_left
      · intro w'
        go_simp
        with_reducible rfl
      rotate_left
      · (try simp only [Act.put, List.setIfInBounds_toArray, List.set_cons_zero, List.set_cons_succ, i64_w, i32_w]); rfl
      refine done_ (done_of HT_.out (by kernel_rfl)) ?_
      go_wp2
      go_ret
      exact ⟨by rw [HE.out]; rfl, below_step (below_step HB.out HBD.out) HBq.out⟩
/-! A state at work: rows of one's own, no two of which lie in one block. -/
def up {α : Type} (h : Nat → α) (j : Nat) (x : α) : Nat → α := fun k => if k = j then x else h k
theorem up_same {α : Type} (h : Nat → α) (j : Nat) (x : α) : up h j x j = x := if_pos rfl
theorem up_ne {α : Type} (h : Nat → α) (j : Nat) (x : α) {k : Nat} (hk : k ≠ j) : up h j x k = h k := if_neg hk
theorem up_self {α : Type} (h : Nat → α) (j : Nat) : up h j (h j) = h := by
  funext k; unfold up; split
  · next e => rw [e]
  · rfl
abbrev Row (w : World) (lo : Nat) (v : Value) (l : List Int) : Prop := Kd.R (Kd.int .i64) 3 w lo (fun k => v.ownBlock = some k) v l
def encS (x : Option Addr × Nat × Nat) : Value := .slice x.1 x.2.1 x.2.2
def kS : Kd (Option Addr × Nat × Nat) := Kd.scalar encS (fun _ => rfl)
abbrev Outer (w : World) (lo : Nat) (v : Value) (qs : List (Option Addr × Nat × Nat)) : Prop := Kd.R kS 23 w lo (fun k => v.ownBlock = some k) v qs
theorem R_self {α : Type} {enc : α → Value} {h1 : ∀ x, (enc x).oneCell' = true} {e lo : Nat} {ok : Nat → Prop} {w : World} {v : Value} {xs : List α} (h : (Kd.scalar enc h1).R e w lo ok v xs) : (Kd.scalar enc h1).R e w lo (fun k => v.ownBlock = some k) v xs := Kd.R_of_own (Kd.own_of_R h) (fun _ hk => hk)
structure MS (w : World) (lo : Nat) (f : Nat → Value) (ls : Nat → List Int) : Prop where
  row : ∀ j, Row w lo (f j) (ls j)
  sep : ∀ j j' k, (f j).ownBlock = some k → (f j').ownBlock = some k → j = j'
theorem own_form {e lo n sz : Nat} {w : World} {v : Value} {xs : List Value} (h : w.ownsRow lo e sz v n xs) : (v = .slice none 0 0 ∧ n = 0) ∨ ∃ g c cur, v = .slice (some ⟨g, 0, none⟩) n c ∧ lo ≤ g ∧ w.heap[g]? = some (.cells cur e (0, 0)) := by
  rcases h.2 with ⟨h1, h2⟩ | ⟨g, c, cur, h1, h2, h3, _⟩
  · exact .inl ⟨h1, h2⟩
  · exact .inr ⟨g, c, cur, h1, h2, h3⟩
theorem own_block {α : Type} {enc : α → Value} {h1 : ∀ x, (enc x).oneCell' = true} {e lo : Nat} {ok : Nat → Prop} {w : World} {v : Value} {xs : List α} (h : (Kd.scalar enc h1).R e w lo ok v xs) {k : Nat} (hk : v.ownBlock = some k) : ∃ cur, w.heap[k]? = some (.cells cur e (0, 0)) := own_typed (Kd.own_of_R h) k hk
theorem row_at {w : World} {lo : Nat} {v : Value} {l : List Int} (h : Row w lo v l) (i : Int) (h0 : 0 ≤ i) (h1 : i < (l.length : Int)) : ∃ g c, v = .slice (some ⟨g, 0, none⟩) l.length c ∧ w.cell? ⟨g, i.toNat, none⟩ = some (.int .i64 (rd l i)) ∧ w.frozen? ⟨g, i.toNat, none⟩ = false := by
  rcases own_form (Kd.own_of_R h) with ⟨_, h2⟩ | ⟨g, c, cur, e, _, _⟩
  · omega
  · refine ⟨g, c, e, ?_⟩
    rw [e] at h
    exact Kd.R_celln (0 : Int) h i h0 h1
theorem outer_at {w : World} {lo : Nat} {v : Value} {qs : List (Option Addr × Nat × Nat)} (h : Outer w lo v qs) (i : Int) (h0 : 0 ≤ i) (h1 : i < (qs.length : Int)) : ∃ g c, v = .slice (some ⟨g, 0, none⟩) qs.length c ∧ w.cell? ⟨g, i.toNat, none⟩ = some (encS (qs.getD i.toNat (none, 0, 0))) ∧ w.frozen? ⟨g, i.toNat, none⟩ = false := by
  rcases own_form (Kd.own_of_R h) with ⟨_, h2⟩ | ⟨g, c, cur, e, _, _⟩
  · omega
  · refine ⟨g, c, e, ?_⟩
    rw [e] at h
    exact Kd.R_celln (none, 0, 0) h i h0 h1
theorem row_len {w : World} {lo : Nat} {v : Value} {l : List Int} (h : Row w lo v l) : ∃ A c, v = .slice A l.length c := Kd.R_slice h
theorem MS.move {w w1 : World} {lo : Nat} {f : Nat → Value} {ls : Nat → List Int} (h : MS w lo f ls) (hm : ∀ j k, (f j).ownBlock = some k → k < w.heap.size → w1.heap[k]? = w.heap[k]?) : MS w1 lo f ls :=
  ⟨fun j => Kd.R_step (h.row j) (fun k hk hl => hm j k hk hl), h.sep⟩
theorem MS.below {w w1 : World} {lo : Nat} {f : Nat → Value} {ls : Nat → List Int} (h : MS w lo f ls) (hb : Below w.heap.size w w1) : MS w1 lo f ls := h.move (fun _ k _ hk => hb.block k hk)
theorem MS.ne_block {w : World} {lo : Nat} {f : Nat → Value} {ls : Nat → List Int} (h : MS w lo f ls) {g t : Nat} {cells : Array Value} (hb : w.heap[g]? = some (.cells cells t (0, 0))) (ht : 3 ≠ t) {j k : Nat} (hk : (f j).ownBlock = some k) : k ≠ g := by
  obtain ⟨cur, hc⟩ := own_block (h.row j) hk
  exact blk_ne hc hb ht
/-- A store into a block of another kind. -/
theorem MS.far {w : World} {lo : Nat} {f : Nat → Value} {ls : Nat → List Int} (h : MS w lo f ls) {g t : Nat} {cells : Array Value} (hb : w.heap[g]? = some (.cells cells t (0, 0))) (ht : 3 ≠ t) (i : Nat) (u : Value) : MS (w.setCell ⟨g, i, none⟩ u) lo f ls :=
  h.move (fun _ k hk _ => Below.heap_setCell w ⟨g, i, none⟩ u k (h.ne_block hb ht hk))
theorem heap_setRow (w : World) (g : Nat) (cs : Array Value) (k : Nat) (hk : k ≠ g) : (w.setRow g cs).heap[k]? = w.heap[k]? := by
  unfold World.setRow
  simp [Array.getElem?_modify, Ne.symm hk]
theorem MS.farRow {w : World} {lo : Nat} {f : Nat → Value} {ls : Nat → List Int} (h : MS w lo f ls) {g t : Nat} {cells : Array Value} (hb : w.heap[g]? = some (.cells cells t (0, 0))) (ht : 3 ≠ t) (cs : Array Value) : MS (w.setRow g cs) lo f ls :=
  h.move (fun _ k hk _ => heap_setRow w g cs k (h.ne_block hb ht hk))
theorem MS.put {w : World} {lo : Nat} {f : Nat → Value} {ls : Nat → List Int} (h : MS w lo f ls) (j : Nat) {g n c : Nat} (e : f j = .slice (some ⟨g, 0, none⟩) n c) (i v : Int) : MS (w.setCell ⟨g, i.toNat, none⟩ (.int .i64 v)) lo f (up ls j ((ls j).set i.toNat v)) := by
  refine ⟨fun q => ?_, h.sep⟩
  have eb : (f j).ownBlock = some g := by rw [e]; rfl
  by_cases hq : q = j
  · subst hq
    rw [up_same]
    have h1 := h.row q
    rw [e] at h1 ⊢
    exact (Kd.R_putg h1 i v).1
  · rw [up_ne _ _ _ hq]
    exact Kd.R_far (p := ⟨g, i.toNat, none⟩) (h.row q) (fun k hk hc => hq (h.sep q j k hk (by rw [eb]; exact congrArg some hc.symm))) _
/-- A row has grown, perhaps into a new block. -/
theorem MS.grow {w w1 : World} {lo : Nat} {f : Nat → Value} {ls : Nat → List Int} (h : MS w lo f ls) (j : Nat) {v : Value} {l : List Int} {ok : Nat → Prop} (hr : Kd.R (Kd.int .i64) 3 w1 lo ok v l) (hg : w.grownBy w1 (f j).ownBlock) (hat : v.ownBlock = (f j).ownBlock ∨ ∃ b, v.ownBlock = some b ∧ w.heap.size ≤ b) : MS w1 lo (up f j v) (up ls j l) := by
  have hlt : ∀ q k, (f q).ownBlock = some k → k < w.heap.size := fun q k hk => by
    obtain ⟨cur, hc⟩ := own_block (h.row q) hk
    exact blk_lt hc
  have hne : ∀ q k, q ≠ j → (f q).ownBlock = some k → v.ownBlock ≠ some k := by
    intro q k hq hk hv
    rcases hat with e | ⟨b, e, hb⟩
    · exact hq (h.sep q j k hk (by rw [← e]; exact hv))
    · rw [e] at hv
      injection hv with hv
      subst hv
      have := hlt q b hk
      omega
  refine ⟨fun q => ?_, fun q q' k hk hk' => ?_⟩
  · by_cases hq : q = j
    · subst hq
      rw [up_same, up_same]
      exact R_self hr
    · rw [up_ne _ _ _ hq, up_ne _ _ _ hq]
      exact Kd.R_grown (h.row q) hg (fun k hk hc => hq (h.sep q j k hk hc.symm))
  · by_cases hq : q = j
    · by_cases hq' : q' = j
      · rw [hq, hq']
      · rw [hq, up_same] at hk
        rw [up_ne _ _ _ hq'] at hk'
        exact absurd hk (hne q' k hq' hk')
    · by_cases hq' : q' = j
      · rw [hq', up_same] at hk'
        rw [up_ne _ _ _ hq] at hk
        exact absurd hk' (hne q k hq hk)
      · rw [up_ne _ _ _ hq] at hk
        rw [up_ne _ _ _ hq'] at hk'
        exact h.sep q q' k hk hk'
/-- A new row in the place of none. -/
theorem MS.fresh {w w1 : World} {lo : Nat} {f : Nat → Value} {ls : Nat → List Int} (h : MS w lo f ls) (j : Nat) (hlo : lo ≤ w.heap.size) {v : Value} {l : List Int} {ok : Nat → Prop} (hb : Below w.heap.size w w1) (hr : Kd.R (Kd.int .i64) 3 w1 w.heap.size ok v l) : MS w1 lo (up f j v) (up ls j l) := by
  have hlt : ∀ q k, (f q).ownBlock = some k → k < w.heap.size := fun q k hk => by
    obtain ⟨cur, hc⟩ := own_block (h.row q) hk
    exact blk_lt hc
  have hge : ∀ k, v.ownBlock = some k → w.heap.size ≤ k := fun k hk => Kd.R_base hr k hk
  refine ⟨fun q => ?_, fun q q' k hk hk' => ?_⟩
  · by_cases hq : q = j
    · subst hq
      rw [up_same, up_same]
      exact Kd.R_lower (R_self hr) hlo
    · rw [up_ne _ _ _ hq, up_ne _ _ _ hq]
      exact Kd.R_below (h.row q) hb
  · by_cases hq : q = j
    · by_cases hq' : q' = j
      · rw [hq, hq']
      · rw [hq, up_same] at hk
        rw [up_ne _ _ _ hq'] at hk'
        have := hge k hk; have := hlt q' k hk'; omega
    · by_cases hq' : q' = j
      · rw [hq', up_same] at hk'
        rw [up_ne _ _ _ hq] at hk
        have := hge k hk'; have := hlt q k hk; omega
      · rw [up_ne _ _ _ hq] at hk
        rw [up_ne _ _ _ hq'] at hk'
        exact h.sep q q' k hk hk'
theorem MS.none_ (w : World) (lo : Nat) : MS w lo (fun _ => .slice none 0 0) (fun _ => []) := ⟨fun _ => Kd.R_nil _ _ _ _ _, fun _ _ k hk => by simp [Value.ownBlock] at hk⟩
theorem IS.ofMS {w : World} {lo : Nat} {f : Nat → Value} {ls : Nat → List Int} (h : MS w lo f ls) (j : Nat) : IS w (f j) (ls j) := IS.of_R (h.row j)
theorem outer_ne {w : World} {lo : Nat} {v : Value} {qs : List (Option Addr × Nat × Nat)} (h : Outer w lo v qs) {g t : Nat} {cells : Array Value} (hb : w.heap[g]? = some (.cells cells t (0, 0))) (ht : 23 ≠ t) {k : Nat} (hk : v.ownBlock = some k) : k ≠ g := by
  obtain ⟨cur, hc⟩ := own_block h hk
  exact blk_ne hc hb ht
theorem outer_far {w : World} {lo : Nat} {v : Value} {qs : List (Option Addr × Nat × Nat)} (h : Outer w lo v qs) {g t : Nat} {cells : Array Value} (hb : w.heap[g]? = some (.cells cells t (0, 0))) (ht : 23 ≠ t) (i : Nat) (u : Value) : Outer (w.setCell ⟨g, i, none⟩ u) lo v qs :=
  Kd.R_step h (fun k hk _ => Below.heap_setCell w ⟨g, i, none⟩ u k (outer_ne h hb ht hk))
theorem outer_farRow {w : World} {lo : Nat} {v : Value} {qs : List (Option Addr × Nat × Nat)} (h : Outer w lo v qs) {g t : Nat} {cells : Array Value} (hb : w.heap[g]? = some (.cells cells t (0, 0))) (ht : 23 ≠ t) (cs : Array Value) : Outer (w.setRow g cs) lo v qs :=
  Kd.R_step h (fun k hk _ => heap_setRow w g cs k (outer_ne h hb ht hk))
theorem MS.block {w : World} {lo : Nat} {f : Nat → Value} {ls : Nat → List Int} (h : MS w lo f ls) {j g n c : Nat} (e : f j = .slice (some ⟨g, 0, none⟩) n c) : ∃ cur, w.heap[g]? = some (.cells cur 3 (0, 0)) := own_block (h.row j) (by rw [e]; rfl)
theorem MS.lo_le {w : World} {lo : Nat} {f : Nat → Value} {ls : Nat → List Int} (h : MS w lo f ls) {j g n c : Nat} (e : f j = .slice (some ⟨g, 0, none⟩) n c) : lo ≤ g := Kd.R_base (h.row j) g (by rw [e]; rfl)
/-- What is read of a state at work. -/
theorem RS.mk' {w : World} {lo : Nat} {f : Nat → Value} {ls : Nat → List Int} {vR vQ : Value} {qs : List (Option Addr × Nat × Nat)} {x : Option Addr × Nat × Nat} (hrow : ∀ j, IS w (f j) (ls j)) (hR : Outer w lo vR [x]) (e2 : f 2 = encS x) (hQ : Outer w lo vQ qs) (eq : ∀ k, k < qs.length → f (12 + k) = encS (qs.getD k (none, 0, 0))) : RS w f ls vR vQ qs.length := by
  refine ⟨hrow, ?_, ?_⟩
  · obtain ⟨A, c, e, h1, _⟩ := Kd.R_reads hR
    obtain ⟨g, c', e', h2, _⟩ := outer_at hR 0 (Int.le_refl _) (by simp)
    rw [e] at e'
    injection e' with e1 e3 e4
    subst e1
    exact ⟨⟨g, 0, none⟩, c, e, h1, by rw [e2]; exact h2⟩
  · obtain ⟨A, c, e, h1, _⟩ := Kd.R_reads hQ
    refine ⟨A, c, e, h1, fun k hk => ?_⟩
    obtain ⟨g, c', e', h2, _⟩ := outer_at hQ (k : Int) (by omega) (by omega)
    rw [e] at e'
    injection e' with e1 e3 e4
    subst e1
    refine ⟨_, rfl, ?_⟩
    rw [eq k hk]
    have : (⟨g, 0, none⟩ : Addr).add k = ⟨g, k, none⟩ := by unfold Addr.add; split <;> simp_all
    rw [this]
    simpa using h2
theorem RS.at2 {w : World} {f : Nat → Value} {ls : Nat → List Int} {vR vQ : Value} {nq : Nat} (h : RS w f ls vR vQ nq) : ∃ ad c, vR = .slice (some ad) 1 c ∧ w.cell? ad = some (f 2) := by
  obtain ⟨ad, c, e, _, h2⟩ := h.r
  exact ⟨ad, c, e, h2⟩
set_option maxRecDepth 100000 in
theorem clone_any (l : List Int) (v : Value) (w : World) (h : IS w v l) (hl : l.length < 17592186044416) :
    Calls Try.prog 62 #[v] w fun e w' => ∃ v', e = .returned v' ∧ Row w' w.heap.size v' l ∧ Below w.heap.size w w' := by
  obtain ⟨A, c, rfl, hc, hC⟩ := h
  have HR := am hC
  clear hC
  go_enter Try.func62, Try.ntmps62
  go_wp2_with (((with_reducible refine gate_builtin (b := .append) (xs := #[.tmp 4, .tmp 5]) rfl ?_); at_builtin; refine Kd.R_append_rows (Kd.int .i64) (w0 := w) w.heap.size rfl (.tmp 4) (.tmp 5) 23 3 (.int .i64 0) 8 rfl Try.underlying23 info3 rfl (by decide) (by omega) (.slice none 0 0) ([] : List Int) l _ _ _ (fun _ => True) (fun _ => False) rfl rfl (Kd.R_nil _ _ _ _ (fun _ => True)) HR.out (fun _ _ h => h) (fun _ h => h.elim) (fun _ _ => trivial) (Below.refl _ _) (Nat.le_refl _) (by simp only [List.length_nil]; omega) ?_; intro v1 w1 ho hb hg hat; rw [List.nil_append] at ho; have HO := am ho; have HB := am hb; clear ho hb hg hat))
  go_ret
  exact ⟨_, rfl, R_self HO.out, HB.out⟩
theorem number_any (b : Bool) (w : World) : Calls Try.prog 54 #[.bool b] w fun e w' => e = .returned (.int .i64 (if b = true then 1 else 0)) ∧ w' = w := by
  cases b with
  | true =>
    go_enter Try.func54, Try.ntmps54
    go_wp2
    go_ret
    exact ⟨rfl, rfl⟩
  | false =>
    go_enter Try.func54, Try.ntmps54
    go_wp2
    go_ret
    exact ⟨rfl, rfl⟩
abbrev Box (w : World) (b : Nat) (P : PV) (f : Nat → Value) (vR vQ : Value) (tr : Int) : Prop := w.heap[b]? = some (.cells (sCells P f vR vQ tr) 70 (0, 0))
section
variable {w : World} {b : Nat} {P : PV} {f : Nat → Value} {vR vQ : Value} {tr : Int}
theorem Box.set7 (h : Box w b P f vR vQ tr) (v : Value) : Box (w.setCell ⟨b, 7, none⟩ v) b P (up f 0 v) vR vQ tr := blk_put h 7 v rfl
theorem Box.set8 (h : Box w b P f vR vQ tr) (v : Value) : Box (w.setCell ⟨b, 8, none⟩ v) b P (up f 1 v) vR vQ tr := blk_put h 8 v rfl
theorem Box.set10 (h : Box w b P f vR vQ tr) (v : Value) : Box (w.setCell ⟨b, 10, none⟩ v) b P (up f 4 v) vR vQ tr := blk_put h 10 v rfl
theorem Box.set11 (h : Box w b P f vR vQ tr) (v : Value) : Box (w.setCell ⟨b, 11, none⟩ v) b P (up f 5 v) vR vQ tr := blk_put h 11 v rfl
theorem Box.set12 (h : Box w b P f vR vQ tr) (v : Value) : Box (w.setCell ⟨b, 12, none⟩ v) b P (up f 6 v) vR vQ tr := blk_put h 12 v rfl
theorem Box.set14 (h : Box w b P f vR vQ tr) (v : Value) : Box (w.setCell ⟨b, 14, none⟩ v) b P (up f 8 v) vR vQ tr := blk_put h 14 v rfl
theorem Box.set15 (h : Box w b P f vR vQ tr) (v : Value) : Box (w.setCell ⟨b, 15, none⟩ v) b P (up f 9 v) vR vQ tr := blk_put h 15 v rfl
theorem Box.set16 (h : Box w b P f vR vQ tr) (v : Value) : Box (w.setCell ⟨b, 16, none⟩ v) b P (up f 10 v) vR vQ tr := blk_put h 16 v rfl
theorem Box.set17 (h : Box w b P f vR vQ tr) (v : Value) : Box (w.setCell ⟨b, 17, none⟩ v) b P (up f 11 v) vR vQ tr := blk_put h 17 v rfl
theorem Box.set9 (h : Box w b P f vR vQ tr) (v : Value) : Box (w.setCell ⟨b, 9, none⟩ v) b P f v vQ tr := blk_put h 9 v rfl
theorem Box.set13 (h : Box w b P f vR vQ tr) (v : Value) : Box (w.setCell ⟨b, 13, none⟩ v) b P f vR v tr := blk_put h 13 v rfl
theorem Box.set18 (h : Box w b P f vR vQ tr) (v : Int) : Box (w.setCell ⟨b, 18, none⟩ (.int .i64 v)) b P f vR vQ v := blk_put h 18 (.int .i64 v) rfl
theorem Box.at0 (h : Box w b P f vR vQ tr) : w.cell? ⟨b, 0, none⟩ = some (.int .i64 P.pv) := blk_cell h 0
theorem Box.at1 (h : Box w b P f vR vQ tr) : w.cell? ⟨b, 1, none⟩ = some (.int .i64 P.pa) := blk_cell h 1
theorem Box.at2 (h : Box w b P f vR vQ tr) : w.cell? ⟨b, 2, none⟩ = some (.int .i64 P.pl) := blk_cell h 2
theorem Box.at3 (h : Box w b P f vR vQ tr) : w.cell? ⟨b, 3, none⟩ = some (P.vC) := blk_cell h 3
theorem Box.at4 (h : Box w b P f vR vQ tr) : w.cell? ⟨b, 4, none⟩ = some (.int .i64 P.pg) := blk_cell h 4
theorem Box.at5 (h : Box w b P f vR vQ tr) : w.cell? ⟨b, 5, none⟩ = some (.int .i64 P.po) := blk_cell h 5
theorem Box.at6 (h : Box w b P f vR vQ tr) : w.cell? ⟨b, 6, none⟩ = some (P.vT) := blk_cell h 6
theorem Box.at7 (h : Box w b P f vR vQ tr) : w.cell? ⟨b, 7, none⟩ = some (f 0) := blk_cell h 7
theorem Box.at8 (h : Box w b P f vR vQ tr) : w.cell? ⟨b, 8, none⟩ = some (f 1) := blk_cell h 8
theorem Box.at9 (h : Box w b P f vR vQ tr) : w.cell? ⟨b, 9, none⟩ = some (vR) := blk_cell h 9
theorem Box.at10 (h : Box w b P f vR vQ tr) : w.cell? ⟨b, 10, none⟩ = some (f 4) := blk_cell h 10
theorem Box.at11 (h : Box w b P f vR vQ tr) : w.cell? ⟨b, 11, none⟩ = some (f 5) := blk_cell h 11
theorem Box.at12 (h : Box w b P f vR vQ tr) : w.cell? ⟨b, 12, none⟩ = some (f 6) := blk_cell h 12
theorem Box.at13 (h : Box w b P f vR vQ tr) : w.cell? ⟨b, 13, none⟩ = some (vQ) := blk_cell h 13
theorem Box.at14 (h : Box w b P f vR vQ tr) : w.cell? ⟨b, 14, none⟩ = some (f 8) := blk_cell h 14
theorem Box.at15 (h : Box w b P f vR vQ tr) : w.cell? ⟨b, 15, none⟩ = some (f 9) := blk_cell h 15
theorem Box.at16 (h : Box w b P f vR vQ tr) : w.cell? ⟨b, 16, none⟩ = some (f 10) := blk_cell h 16
theorem Box.at17 (h : Box w b P f vR vQ tr) : w.cell? ⟨b, 17, none⟩ = some (f 11) := blk_cell h 17
theorem Box.at18 (h : Box w b P f vR vQ tr) : w.cell? ⟨b, 18, none⟩ = some (.int .i64 tr) := blk_cell h 18
theorem Box.fr (h : Box w b P f vR vQ tr) (i : Nat) : w.frozen? ⟨b, i, none⟩ = false := blk_frozen h i
end
theorem below_rowS {w W : World} {g : Nat} {cs : Array Value} (h : Below w.heap.size w W) (hg : w.heap.size ≤ g) : Below w.heap.size w (W.setRow g cs) :=
  ⟨h.os, h.tape, h.output, by have := h.size; simpa using this, fun i hi => (setRow_other W g i cs (by omega)).trans (h.block i hi)⟩
theorem wrap64_up (i : Nat) (h : i < 4611686018427387904) : wrap64 ((i : Int) + 1) = ((i + 1 : Nat) : Int) := by
  unfold wrap64
  omega
theorem ret_box {Pp : Program} {fn : Func} {p : Tmp} {ty : TypeId} {a : Act} {W : World} {Post : Ending → World → Prop} (h : fn.results = #[.cell p ty]) (g t : Nat) (cs : Array Value) (d : TypeDesc) (hg : W.heap[g]? = some (.cells cs t (0, 0)))
    (hu : Pp.underlying ty = some d) (hd : (match d with | .struct _ | .array _ _ => true | _ => false) = true) (hi : (Pp.info? ty).map (·.size) = some cs.size) (hp : a.tmps.getD p undef = .pointer (some ⟨g, 0, none⟩)) (hdf : a.defers = []) (hpost : Post (.returned (.agg cs)) W) : bodyPost Pp fn Post .ret a W :=
  bodyPost_ret (results_cell_row h _ _ g t cs (0, 0) d hp hg hu hd hi) hdf hpost
theorem store_row_event {Pp : Program} {ops : Array Oper} {rest : List Oper} {o : Oper} {a : Act} {w : World} {Q : Exit → Act → World → Prop} (hgd : o.guard = none) (ty : TypeId) (x y : Operand) (ho : o.op = .store ty x y)
    (g : Nat) (cells : Array Value) (hx : a.eval x = .pointer (some ⟨g, 0, none⟩)) (hy : a.eval y = .agg cells)
    (t : TypeId) (old : Array Value) (hg : w.heap[g]? = some (.cells old t (0, 0))) (hi : (Pp.info? ty).map (·.size) = some cells.size)
    (hold : old.size = cells.size) (h1 : cells.all (·.oneCell') = true) (hN : o.dst = none)
    (h : ∀ w', w' = w.setRow g cells → wpList Pp ops Q rest a w') : wpList Pp ops Q (o :: rest) a w := by
  refine wpList_store_row hgd ty x y ho g cells hx hy t old hg hi hold h1 ?_
  rw [hN]
  exact h _ rfl
/-- Rows are copied one by one. -/
def CM (w : World) (lo : Nat) (g : Nat → Value) (ls : Nat → List Int) (D : Nat → Bool) : Prop := MS w lo g (fun j => if D j = true then ls j else [])
theorem CM.none_ (w : World) (lo : Nat) (ls : Nat → List Int) : CM w lo (fun _ => .slice none 0 0) ls (fun _ => false) := MS.none_ w lo
theorem CM.step {w w1 : World} {lo : Nat} {g : Nat → Value} {ls : Nat → List Int} {D : Nat → Bool} {j : Nat} {v : Value} (h : CM w lo g ls D) (hlo : lo ≤ w.heap.size) (hb : Below w.heap.size w w1) (hr : Row w1 w.heap.size v (ls j)) : CM w1 lo (up g j v) ls (fun q => D q || q == j) := by
  have h1 := MS.fresh h j hlo hb hr
  have e : (fun q => if (D q || q == j) = true then ls q else []) = up (fun q => if D q = true then ls q else []) j (ls j) := by
    funext q
    by_cases hq : q = j
    · subst hq; rw [up_same]; simp
    · rw [up_ne _ _ _ hq]; simp [hq]
  unfold CM
  rw [e]
  exact h1
theorem CM.all {w : World} {lo : Nat} {g : Nat → Value} {ls : Nat → List Int} {D : Nat → Bool} (h : CM w lo g ls D) (hD : ∀ j, D j = false → ls j = []) : MS w lo g ls := by
  have e : (fun j => if D j = true then ls j else []) = ls := by
    funext j
    cases hd : D j with
    | true => simp
    | false => simp [hD j hd]
  unfold CM at h
  rw [e] at h
  exact h
theorem CM.below {w w1 : World} {lo : Nat} {g : Nat → Value} {ls : Nat → List Int} {D : Nat → Bool} (h : CM w lo g ls D) (hb : Below w.heap.size w w1) : CM w1 lo g ls D := MS.below h hb
theorem CM.far {w : World} {lo : Nat} {g0 : Nat → Value} {ls : Nat → List Int} {D : Nat → Bool} (h : CM w lo g0 ls D) {g t : Nat} {cells : Array Value} (hb : w.heap[g]? = some (.cells cells t (0, 0))) (ht : 3 ≠ t) (i : Nat) (u : Value) : CM (w.setCell ⟨g, i, none⟩ u) lo g0 ls D := MS.far h hb ht i u
theorem IS.one {w : World} {v : Value} {l : List Int} (h : IS w v l) : v.oneCell' = true := by
  obtain ⟨A, c, e, _⟩ := h
  rw [e]; rfl
theorem sOne {w : World} {P : PV} {f : Nat → Value} {ls : Nat → List Int} {vR vQ : Value} {nq : Nat} (tr : Int) (h : RS w f ls vR vQ nq) (hC : P.vC.oneCell' = true) (hT : P.vT.oneCell' = true) : (sCells P f vR vQ tr).all (·.oneCell') = true := by
  have hr : vR.oneCell' = true := by obtain ⟨_, _, e, _⟩ := h.r; rw [e]; rfl
  have hq : vQ.oneCell' = true := by obtain ⟨_, _, e, _⟩ := h.q; rw [e]; rfl
  have hj := fun j => (h.row j).one
  have hi : ∀ k n, (Value.int k n).oneCell' = true := fun _ _ => rfl
  simp [sCells, hC, hT, hr, hq, hj, hi]

end Go.Proofs.Yticdodbnjlnjlaa.P
