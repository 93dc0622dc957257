import Derived.Test.YticdodbnjlnjlaaRG
import Derived.Test.YticdodbnjlnjlaaHB
import Derived.Test.YticdodbnjlnjlaaPx5
import Derived.Test.YticdodbnjlnjlaaPx11
namespace Go.Proofs.Yticdodbnjlnjlaa.Th
set_option linter.unusedVariables false
open Go Go.RowKit Go.Proofs.Yticdodbnjlnjlaa.P Go.Proofs.Yticdodbnjlnjlaa.Opn Go.Proofs.YticdodbnjlnjlaaW.PrintWords Go.Proofs.YticdodbnjlnjlaaW.PrintLast Go.Proofs.YticdodbnjlnjlaaW.PrintMore
/-! Apart: of the program and of the document. -/
def sM (a : S33) : Nat := regN (shpAt a.f0) (xyz a.f1 a.f2 a.f3) 2 3
def uM (a : S33) : Nat := regN (shpAt a.f0) (xyz a.f1 a.f2 a.f3) 3 3
theorem sM_lt (a : S33) : sM a < 18446744073709551616 := regN_lt _ _ _ _
theorem uM_lt (a : S33) : uM a < 18446744073709551616 := regN_lt _ _ _ _
def tv (a : S33) : Int := if a.f0 = 7 then a.f2 else if a.f0 = 8 then a.f1 else 0
def tb (a : S33) : Bool := decide (a.f0 = 7) || decide (a.f0 = 8)
def clear1 (a b : S33) : Bool := decide (sM a &&& (uM b ||| sM b) = 0)
def clear2 (a b : S33) : Bool := decide (sM b &&& uM a = 0)
def clashB (a b : S33) : Bool := tb a && tb b && decide (tv a = tv b) && (decide (a.f0 = 8) || decide (b.f0 = 8))
def apB (a b : S33) : Bool := decide (a.f0 ≤ 8) && decide (b.f0 ≤ 8) && !clashB a b && (clear1 a b && clear2 a b)
section
variable (a b : S33) (ha : 0 ≤ a.f0 ∧ a.f0 ≤ 255) (hb : 0 ≤ b.f0 ∧ b.f0 ≤ 255)
theorem touches_f : swap_touches.f a.f0 a.f1 a.f2 a.f3 = some (tv a, tb a) := by
  unfold swap_touches.f tv tb
  by_cases h7 : a.f0 = 7
  · rw [if_pos h7, if_pos h7, decide_eq_true h7]; rfl
  · rw [if_neg h7, if_neg h7, decide_eq_false h7]
    by_cases h8 : a.f0 = 8
    · rw [if_pos h8, if_pos h8, decide_eq_true h8]; rfl
    · rw [if_neg h8, if_neg h8, decide_eq_false h8]; rfl
include ha in
theorem asets_ev : Ev (fun k => ir_Sets.f k a.f0 a.f1 a.f2 a.f3) (sM a : Int) := by
  obtain ⟨p, hp⟩ : ∃ p : Nat, a.f0 = (p : Int) := ⟨a.f0.toNat, by omega⟩
  have h := sets_ev p a.f1 a.f2 a.f3 (by omega)
  unfold sM
  rw [hp]; exact h
include ha in
theorem auses_ev : Ev (fun k => ir_Uses.f k a.f0 a.f1 a.f2 a.f3) (uM a : Int) := by
  obtain ⟨p, hp⟩ : ∃ p : Nat, a.f0 = (p : Int) := ⟨a.f0.toNat, by omega⟩
  have h := uses_ev p a.f1 a.f2 a.f3 (by omega)
  unfold uM
  rw [hp]; exact h
include ha in
theorem rasets_ev : Ev (fun k => interlockref02_Sets.f k a.f0 a.f1 a.f2 a.f3) (sM a : Int) := by
  obtain ⟨p, hp⟩ : ∃ p : Nat, a.f0 = (p : Int) := ⟨a.f0.toNat, by omega⟩
  have h := rsets_ev p a.f1 a.f2 a.f3 (by omega)
  unfold sM
  rw [hp]; exact h
include ha in
theorem rauses_ev : Ev (fun k => interlockref02_Uses.f k a.f0 a.f1 a.f2 a.f3) (uM a : Int) := by
  obtain ⟨p, hp⟩ : ∃ p : Nat, a.f0 = (p : Int) := ⟨a.f0.toNat, by omega⟩
  have h := ruses_ev p a.f1 a.f2 a.f3 (by omega)
  unfold uM
  rw [hp]; exact h
theorem or_lt2 (x y : Nat) (hx : x < 18446744073709551616) (hy : y < 18446744073709551616) : x ||| y < 18446744073709551616 := Nat.or_lt_two_pow (n := 64) hx hy
theorem m1_nat : Go.bits .and .u64 (sM a : Int) (Go.bits .or .u64 (uM b : Int) (sM b : Int)) = ((sM a &&& (uM b ||| sM b) : Nat) : Int) := by
  rw [or_nat _ _ (uM_lt b) (sM_lt b), and_nat _ _ (sM_lt a) (or_lt2 _ _ (uM_lt b) (sM_lt b))]
theorem m2_nat : Go.bits .and .u64 (sM b : Int) (uM a : Int) = ((sM b &&& uM a : Nat) : Int) := and_nat _ _ (sM_lt b) (uM_lt a)
theorem beq_zero (n : Nat) : ((n : Int) == 0) = decide (n = 0) := by
  by_cases h : n = 0
  · subst h; rfl
  · rw [decide_eq_false h, beq_eq_false_iff_ne.2 (by omega)]
include ha hb in
theorem apart_j1 (X : Bool) : Ev (fun k => swap_Apart.j1 k X a.f0 a.f1 a.f2 a.f3 b.f0 b.f1 b.f2 b.f3) (!X && (clear1 a b && clear2 a b)) := by
  cases X with
  | true => exact Ev.step (fun k => by simp only [swap_Apart.j1]; exact if_pos trivial) (Ev.now _)
  | false =>
    refine Ev.step (fun k => by simp only [swap_Apart.j1]; exact if_neg (by decide)) ?_
    refine Ev.bind (asets_ev a ha) (Ev.bind (auses_ev b hb) (Ev.bind (asets_ev b hb) ?_))
    rw [m1_nat]
    by_cases h1 : sM a &&& (uM b ||| sM b) = 0
    · rw [show clear1 a b = true from decide_eq_true h1]
      refine ev_pos (by omega) (Ev.bind (asets_ev b hb) (Ev.bind (auses_ev a ha) ?_))
      rw [m2_nat, beq_zero]
      exact Ev.now _
    · rw [show clear1 a b = false from decide_eq_false h1]
      exact ev_neg (by omega) (Ev.now _)
include ha hb in
theorem apart_j0 : Ev (fun k => swap_Apart.j0 k false a.f0 a.f1 a.f2 a.f3 b.f0 b.f1 b.f2 b.f3) (!clashB a b && (clear1 a b && clear2 a b)) := by
  refine Ev.step (fun k => by simp only [swap_Apart.j0]; exact if_neg (by decide)) ?_
  refine Ev.bind (some_ev (touches_f a)) (Ev.bind (some_ev (touches_f b)) ?_)
  have J := apart_j1 a b ha hb
  show Ev (fun k => if tb a = true then (if tb b = true then (if tv a = tv b then _ else _) else _) else _) _
  by_cases h1 : tb a = true
  · refine ev_pos h1 ?_
    by_cases h2 : tb b = true
    · refine ev_pos h2 ?_
      by_cases h3 : tv a = tv b
      · refine ev_pos h3 ?_
        have e : ((mx a.f0 b.f0) == 8) = clashB a b := by
          unfold clashB
          rw [h1, h2, decide_eq_true h3]
          unfold tb at h1 h2
          simp only [Bool.or_eq_true, decide_eq_true_eq] at h1 h2
          simp only [Bool.true_and]
          rcases h1 with h1 | h1 <;> rcases h2 with h2 | h2 <;> rw [h1, h2] <;> decide
        rw [e]; exact J _
      · refine ev_neg h3 ?_
        rw [show clashB a b = false by unfold clashB; rw [decide_eq_false h3]; simp]; exact J _
    · refine ev_neg h2 ?_
      rw [show clashB a b = false by unfold clashB; simp [h2]]; exact J _
  · refine ev_neg h1 ?_
    rw [show clashB a b = false by unfold clashB; simp [h1]]; exact J _
include ha hb in
theorem apart_ev : Ev (fun k => swap_Apart.f k a.f0 a.f1 a.f2 a.f3 b.f0 b.f1 b.f2 b.f3) (apB a b) := by
  have jt : Ev (fun k => swap_Apart.j0 k true a.f0 a.f1 a.f2 a.f3 b.f0 b.f1 b.f2 b.f3) false := Ev.step (fun k => by simp only [swap_Apart.j0]; exact if_pos trivial) (Ev.now _)
  refine Ev.bind (some_ev (plain_f ha.1 ha.2)) ?_
  rw [plain_at ha.1]
  unfold apB
  by_cases h1 : a.f0 ≤ 8
  · rw [decide_eq_true h1]
    refine ev_pos rfl (Ev.bind (some_ev (plain_f hb.1 hb.2)) ?_)
    rw [plain_at hb.1]
    by_cases h2 : b.f0 ≤ 8
    · rw [decide_eq_true h2]; exact apart_j0 a b ha hb
    · rw [decide_eq_false h2]; exact jt
  · rw [decide_eq_false h1]
    exact ev_neg (by decide) jt
theorem var_f : interlockref19_variable.f a.f0 a.f1 a.f2 a.f3 = some (if a.f0 = 7 then a.f2 else if a.f0 = 8 then a.f1 else -1) := by
  unfold interlockref19_variable.f
  split
  · rfl
  · split <;> rfl
theorem plain_rf (x : Int) : interlockref02_Plain.f x = some (decide (x ≤ 8)) := rfl
theorem rapart_j1 (X : Bool) (hX : X = (tb a && tb b)) : Ev (fun k => interlockref19_Apart.j1 k ((sM a &&& (uM b ||| sM b) : Nat) : Int) ((sM b &&& uM a : Nat) : Int) X a.f0 a.f1 a.f2 a.f3 b.f0 b.f1 b.f2 b.f3) (!clashB a b && (clear1 a b && clear2 a b)) := by
  have R : Ev (fun _ => if ((sM a &&& (uM b ||| sM b) : Nat) : Int) = 0 then some (((sM b &&& uM a : Nat) : Int) == 0) else some false) (clear1 a b && clear2 a b) := by
    by_cases h1 : sM a &&& (uM b ||| sM b) = 0
    · rw [show clear1 a b = true from decide_eq_true h1, if_pos (by omega), beq_zero]; exact Ev.now _
    · rw [show clear1 a b = false from decide_eq_false h1, if_neg (by omega)]; exact Ev.now _
  refine Ev.step (fun k => by simp only [interlockref19_Apart.j1]; exact rfl) ?_
  subst hX
  by_cases h12 : (tb a && tb b) = true
  · refine ev_pos h12 ?_
    rw [Bool.and_eq_true] at h12
    obtain ⟨h1, h2⟩ := h12
    have tva : tb a = true → (if a.f0 = 7 then a.f2 else if a.f0 = 8 then a.f1 else -1) = tv a := by
      intro h; unfold tb at h; unfold tv
      simp only [Bool.or_eq_true, decide_eq_true_eq] at h
      split
      · rfl
      · rw [if_pos (by omega), if_pos (by omega)]
    have tvb : tb b = true → (if b.f0 = 7 then b.f2 else if b.f0 = 8 then b.f1 else -1) = tv b := by
      intro h; unfold tb at h; unfold tv
      simp only [Bool.or_eq_true, decide_eq_true_eq] at h
      split
      · rfl
      · rw [if_pos (by omega), if_pos (by omega)]
    have V : a.f0 = 8 ∨ b.f0 = 8 → Ev (fun _ => (interlockref19_variable.f a.f0 a.f1 a.f2 a.f3).bind fun t => (interlockref19_variable.f b.f0 b.f1 b.f2 b.f3).bind fun u => if t = u then some false else if ((sM a &&& (uM b ||| sM b) : Nat) : Int) = 0 then some (((sM b &&& uM a : Nat) : Int) == 0) else some false) (!clashB a b && (clear1 a b && clear2 a b)) := by
      intro h8
      have e8 : (decide (a.f0 = 8) || decide (b.f0 = 8)) = true := by simpa using h8
      refine Ev.bind (some_ev (var_f a)) (Ev.bind (some_ev (var_f b)) ?_)
      rw [tva h1, tvb h2]
      unfold clashB
      rw [h1, h2, e8]
      by_cases h3 : tv a = tv b
      · rw [decide_eq_true h3]; exact ev_pos h3 (Ev.now _)
      · rw [decide_eq_false h3]; exact ev_neg h3 R
    by_cases ha8 : a.f0 = 8
    · exact ev_pos ha8 (V (.inl ha8))
    · refine ev_neg ha8 ?_
      by_cases hb8 : b.f0 = 8
      · exact ev_pos hb8 (V (.inr hb8))
      · refine ev_neg hb8 ?_
        rw [show clashB a b = false by unfold clashB; rw [decide_eq_false ha8, decide_eq_false hb8]; simp]
        exact R
  · refine ev_neg h12 ?_
    rw [show clashB a b = false by unfold clashB; rw [Bool.eq_false_iff.2 h12]; simp]
    exact R
include ha hb in
theorem rapart_j0 : Ev (fun k => interlockref19_Apart.j0 k false a.f0 a.f1 a.f2 a.f3 b.f0 b.f1 b.f2 b.f3) (!clashB a b && (clear1 a b && clear2 a b)) := by
  refine Ev.step (fun k => by simp only [interlockref19_Apart.j0]; exact if_neg (by decide)) ?_
  refine Ev.bind (rasets_ev a ha) (Ev.bind (rauses_ev b hb) (Ev.bind (rasets_ev b hb) ?_))
  refine Ev.bind (some_ev (show interlockref01_Or.f (uM b : Int) (sM b : Int) = some ((uM b ||| sM b : Nat) : Int) by unfold interlockref01_Or.f; rw [or_nat _ _ (uM_lt b) (sM_lt b)])) ?_
  refine Ev.bind (some_ev (show interlockref01_And.f (sM a : Int) ((uM b ||| sM b : Nat) : Int) = some ((sM a &&& (uM b ||| sM b) : Nat) : Int) by unfold interlockref01_And.f; rw [and_nat _ _ (sM_lt a) (or_lt2 _ _ (uM_lt b) (sM_lt b))])) ?_
  refine Ev.bind (rasets_ev b hb) (Ev.bind (rauses_ev a ha) ?_)
  refine Ev.bind (some_ev (show interlockref01_And.f (sM b : Int) (uM a : Int) = some ((sM b &&& uM a : Nat) : Int) by unfold interlockref01_And.f; rw [and_nat _ _ (sM_lt b) (uM_lt a)])) ?_
  have J := rapart_j1 a b
  by_cases a7 : a.f0 = 7
  · refine ev_pos a7 ?_
    by_cases b7 : b.f0 = 7
    · exact ev_pos b7 (J _ (by unfold tb; simp [a7, b7]))
    · exact ev_neg b7 (J _ (by unfold tb; rw [decide_eq_true a7, decide_eq_false b7]; by_cases h : b.f0 = 8 <;> simp [h]))
  · refine ev_neg a7 ?_
    by_cases a8 : a.f0 = 8
    · refine ev_pos a8 ?_
      by_cases b7 : b.f0 = 7
      · exact ev_pos b7 (J _ (by unfold tb; simp [a8, b7]))
      · exact ev_neg b7 (J _ (by unfold tb; rw [decide_eq_true a8, decide_eq_false b7]; by_cases h : b.f0 = 8 <;> simp [h]))
    · exact ev_neg a8 (J _ (by unfold tb; rw [decide_eq_false a7, decide_eq_false a8]; simp))
include ha hb in
theorem rapart_ev : Ev (fun k => interlockref19_Apart.f k a.f0 a.f1 a.f2 a.f3 b.f0 b.f1 b.f2 b.f3) (apB a b) := by
  have jt : Ev (fun k => interlockref19_Apart.j0 k true a.f0 a.f1 a.f2 a.f3 b.f0 b.f1 b.f2 b.f3) false := Ev.step (fun k => by simp only [interlockref19_Apart.j0]; exact if_pos trivial) (Ev.now _)
  refine Ev.bind (some_ev (plain_rf _)) ?_
  unfold apB
  by_cases h1 : a.f0 ≤ 8
  · rw [decide_eq_true h1]
    refine ev_pos rfl (Ev.bind (some_ev (plain_rf _)) ?_)
    by_cases h2 : b.f0 ≤ 8
    · rw [decide_eq_true h2]; exact rapart_j0 a b ha hb
    · rw [decide_eq_false h2]; exact jt
  · rw [decide_eq_false h1]
    exact ev_neg (by decide) jt
end
end Go.Proofs.Yticdodbnjlnjlaa.Th
