import Derived.Test.YtkkhjfkgfmodnaaSIrRegs
import Derived.Test.YtkkhjfkgfmodnaaIA
namespace Go.Proofs.Ytkkhjfkgfmodnaa.Pure
open Go Go.RowKit Go.Proofs.Ytkkhjfkgfmodnaa.P Go.Proofs.Ytkkhjfkgfmodnaa.Opn Go.Proofs.YtkkhjfkgfmodnaaW.PrintWords Go.Proofs.YtkkhjfkgfmodnaaW.PrintLast Go.Proofs.YtkkhjfkgfmodnaaW.PrintMore
theorem i8_range {x : Int} (h : (Lit.int .i8 x).wf = true) : -128 ≤ x ∧ x ≤ 127 := by
  have m1 : IntKind.i8.min = -128 := rfl
  have m2 : IntKind.i8.max = 127 := rfl
  simp [Lit.wf, m1, m2] at h
  exact ⟨by omega, by omega⟩
theorem tmod6 {x : Int} (_h : -128 ≤ x ∧ x ≤ 127) : -6 < Int.tmod x 6 ∧ Int.tmod x 6 < 6 := by
  have h1 := Int.tmod_lt_of_pos x (show (0 : Int) < 6 by omega)
  have h2 := Int.tmod_lt_of_pos (-x) (show (0 : Int) < 6 by omega)
  rw [Int.neg_tmod] at h2
  omega
theorem wrap_small {x : Int} (h : -128 ≤ x ∧ x ≤ 127) : wrap64 x = x := by
  unfold wrap64; omega
theorem regs_j0 (a2 x y z : Int) (b : Bool) (hc : -128 ≤ a2 ∧ a2 ≤ 127) (hb : b = decide (((0 ≤ x ∧ x < 4) ∧ (0 ≤ y ∧ y < 4)) ∧ (0 ≤ z ∧ z < 4))) :
    interlocklaw02_IrRegs.j0 7 a2 b 0 0 0 0 0 [[(⟨3, x, y, z⟩ : S30)]] = some true := by
  unfold interlocklaw02_IrRegs.j0
  simp only [Option.bind_some]
  rw [known_6, wrap_small hc, sound_add, sound_nop]
  simp only [Option.bind_some, if_true]
  have hn : (if (((if a2 = 0 then (0 : Int) else 20) == 0) == (a2 == 0)) = true then if a2 = 0 then some true else some ((if a2 = 0 then (0 : Int) else 20) == 20) else some false) = some true := by
    by_cases e : a2 = 0
    · subst e; rfl
    · rw [if_neg e, if_neg e, beq_eq_false_iff_ne.2 e]; rfl
  rw [hn]
  by_cases h : ((0 ≤ x ∧ x < 4) ∧ (0 ≤ y ∧ y < 4)) ∧ (0 ≤ z ∧ z < 4)
  · rw [decide_eq_true h] at hb
    subst hb
    rw [if_pos h]; rfl
  · rw [decide_eq_false h] at hb
    subst hb
    rw [if_neg h]; rfl
theorem IrRegs : Stmt.IrRegs := by
  intro a0 a1 a2 h0 h1 h2
  have p0 := i8_range h0
  have p1 := i8_range h1
  have p2 := i8_range h2
  have t0 := tmod6 p0
  have t1 := tmod6 p1
  have t2 := tmod6 p2
  refine ⟨7, ?_⟩
  unfold interlocklaw02_IrRegs.f
  simp only [Option.bind_some]
  rw [wrap_small (x := Int.tmod a0 6) (by omega), wrap_small (x := Int.tmod a1 6) (by omega), wrap_small (x := Int.tmod a2 6) (by omega)]
  generalize Int.tmod a0 6 = x at t0 ⊢
  generalize Int.tmod a1 6 = y at t1 ⊢
  generalize Int.tmod a2 6 = z at t2 ⊢
  split
  · split
    · split
      · split
        · split
          · exact regs_j0 a2 x y z _ p2 (by congr 1; apply propext; omega)
          · exact regs_j0 a2 x y z _ p2 (decide_eq_false (by omega)).symm
        · exact regs_j0 a2 x y z _ p2 (decide_eq_false (by omega)).symm
      · exact regs_j0 a2 x y z _ p2 (decide_eq_false (by omega)).symm
    · exact regs_j0 a2 x y z _ p2 (decide_eq_false (by omega)).symm
  · exact regs_j0 a2 x y z _ p2 (decide_eq_false (by omega)).symm
end Go.Proofs.Ytkkhjfkgfmodnaa.Pure
