import Derived.Test.YticdodbnjlnjlaaBI
import Derived.Test.YticdodbnjlnjlaaPx9
namespace Go.Proofs.Yticdodbnjlnjlaa.Th
set_option linter.unusedVariables false
open Go Go.RowKit Go.Proofs.Yticdodbnjlnjlaa.P Go.Proofs.Yticdodbnjlnjlaa.Opn Go.Proofs.YticdodbnjlnjlaaW.PrintWords Go.Proofs.YticdodbnjlnjlaaW.PrintLast Go.Proofs.YticdodbnjlnjlaaW.PrintMore
theorem u8_range {x : Int} (h : (Lit.int .u8 x).wf = true) : 0 ≤ x ∧ x ≤ 255 := by
  have m1 : IntKind.u8.min = 0 := rfl
  have m2 : IntKind.u8.max = 255 := rfl
  simp [Lit.wf, m1, m2] at h
  exact ⟨by omega, by omega⟩
theorem plain_f {a : Int} (h0 : 0 ≤ a) (h1 : a ≤ 255) : ir_Plain.f a = some (shpAt a).p := by
  unfold ir_Plain.f; rw [if_pos h0, if_pos h1]
theorem row_tab : ((List.range 256).all fun n => interlockref02_row.f 3 (n : Int) == some [(shpAt (n : Int)).w 0, (shpAt (n : Int)).w 1, (shpAt (n : Int)).w 2]) = true := by kernel_rfl
theorem row_ev (n : Nat) (hn : n ≤ 255) : Ev (fun k => interlockref02_row.f k (n : Int)) [(shpAt (n : Int)).w 0, (shpAt (n : Int)).w 1, (shpAt (n : Int)).w 2] :=
  Ev.of (interlockref02_row.mono _) (k := 3) (eq_of_beq (List.all_eq_true.1 row_tab n (List.mem_range.2 (by omega))))
theorem rd3 (a b c : Int) (j : Nat) (hj : j < 3) : rd [a, b, c] (j : Int) = xyz a b c j := by
  rcases (by omega : j = 0 ∨ j = 1 ∨ j = 2) with rfl | rfl | rfl <;> rfl
theorem xyz_w (s : Shp) (j : Nat) (hj : j < 3) : xyz (s.w 0) (s.w 1) (s.w 2) j = s.w j := by
  rcases (by omega : j = 0 ∨ j = 1 ∨ j = 2) with rfl | rfl | rfl <;> rfl
/-- The set of the numbers that a word has. -/
def regN (s : Shp) (x : Nat → Int) (wd : Int) : Nat → Nat
  | 0 => 0
  | n + 1 => if s.w n = wd then Th.withN (regN s x wd n) [x n] else regN s x wd n
theorem regN_lt (s : Shp) (x : Nat → Int) (wd : Int) : ∀ n, regN s x wd n < 18446744073709551616
  | 0 => by unfold regN; decide
  | n + 1 => by
    unfold regN
    split
    · exact Th.with_lt _ _ (regN_lt s x wd n)
    · exact regN_lt s x wd n
theorem regTo_ev (s : Shp) (x : Nat → Int) (wd : Int) : ∀ n, Ev (fun k => regTo k s x wd n) (regN s x wd n : Int)
  | 0 => Ev.now 0
  | n + 1 => by
    refine Ev.bind (regTo_ev s x wd n) ?_
    rw [show regN s x wd (n + 1) = if s.w n = wd then Th.withN (regN s x wd n) [x n] else regN s x wd n from rfl]
    by_cases h : s.w n = wd
    · rw [if_pos h]
      exact ev_pos h (Th.with_ev [x n] (by show 1 ≤ 4611686018427387904; decide) _ (regN_lt s x wd n))
    · rw [if_neg h]
      exact ev_neg h (Ev.now _)
section
variable (op : Nat) (n0 n1 n2 wd : Int)
theorem regs_ev (hop : op ≤ 255) : Ev (fun k => ir_registers.f k (op : Int) n0 n1 n2 wd) (regN (shpAt (op : Int)) (xyz n0 n1 n2) wd 3 : Int) :=
  ev_pos (by omega) (ev_pos (by omega) (regTo_ev _ _ _ 3))
theorem rof_l0 : ∀ d j : Nat, j + d = 3 → Ev (fun k => interlockref02_of.l0 k wd (regN (shpAt (op : Int)) (xyz n0 n1 n2) wd j : Int) [(shpAt (op : Int)).w 0, (shpAt (op : Int)).w 1, (shpAt (op : Int)).w 2] [n0, n1, n2] (j : Int)) (regN (shpAt (op : Int)) (xyz n0 n1 n2) wd 3 : Int)
  | 0, j, h => by
    obtain rfl : j = 3 := by omega
    exact Ev.step (fun k => by simp only [interlockref02_of.l0]; exact if_neg (by decide)) (Ev.now _)
  | d + 1, j, h => by
    have ih := rof_l0 d (j + 1) (by omega)
    have e7 : rd [(shpAt op).w 0, (shpAt op).w 1, (shpAt op).w 2] (j : Int) = (shpAt op).w j := by rw [rd3 _ _ _ j (by omega), xyz_w _ j (by omega)]
    have e8 : rd [n0, n1, n2] (j : Int) = xyz n0 n1 n2 j := rd3 _ _ _ j (by omega)
    have ej : wrap64 ((j : Int) + 1) = ((j + 1 : Nat) : Int) := up j (by omega)
    have hl7 : (([(shpAt op).w 0, (shpAt op).w 1, (shpAt op).w 2] : List Int).length : Int) = 3 := rfl
    have hl8 : (([n0, n1, n2] : List Int).length : Int) = 3 := rfl
    by_cases hw : (shpAt (op : Int)).w j = wd
    · have hr : regN (shpAt (op : Int)) (xyz n0 n1 n2) wd (j + 1) = Th.withN (regN (shpAt (op : Int)) (xyz n0 n1 n2) wd j) [xyz n0 n1 n2 j] := if_pos hw
      rw [hr] at ih
      refine Ev.step (fun k => ?_) (Ev.bind (Th.rwith_ev [xyz n0 n1 n2 j] (by show 1 ≤ 4611686018427387904; decide) _ (regN_lt (shpAt (op : Int)) (xyz n0 n1 n2) wd j)) (f := fun k t => interlockref02_of.l0 k wd t [(shpAt (op : Int)).w 0, (shpAt (op : Int)).w 1, (shpAt (op : Int)).w 2] [n0, n1, n2] ((j + 1 : Nat) : Int)) ih)
      simp only [interlockref02_of.l0]
      rw [if_pos (by omega), if_pos (by omega), if_pos (by omega), e7, if_pos hw, if_pos (by omega), e8, ej]
    · have hr : regN (shpAt (op : Int)) (xyz n0 n1 n2) wd (j + 1) = regN (shpAt (op : Int)) (xyz n0 n1 n2) wd j := if_neg hw
      rw [hr] at ih
      refine Ev.step (fun k => ?_) ih
      simp only [interlockref02_of.l0]
      rw [if_pos (by omega), if_pos (by omega), if_pos (by omega), e7, if_neg hw, ej]
theorem rof_ev (hop : op ≤ 255) : Ev (fun k => interlockref02_of.f k (op : Int) n0 n1 n2 wd) (regN (shpAt (op : Int)) (xyz n0 n1 n2) wd 3 : Int) :=
  Ev.bind (row_ev op hop) (Ev.bind (Ev.now [n0, n1, n2]) (rof_l0 op n0 n1 n2 wd 3 0 (by omega)))
end
theorem uses_ev (op : Nat) (n0 n1 n2 : Int) (hop : op ≤ 255) : Ev (fun k => ir_Uses.f k (op : Int) n0 n1 n2) (regN (shpAt (op : Int)) (xyz n0 n1 n2) 3 3 : Int) := Ev.bind (regs_ev op n0 n1 n2 3 hop) (Ev.now _)
theorem sets_ev (op : Nat) (n0 n1 n2 : Int) (hop : op ≤ 255) : Ev (fun k => ir_Sets.f k (op : Int) n0 n1 n2) (regN (shpAt (op : Int)) (xyz n0 n1 n2) 2 3 : Int) := Ev.bind (regs_ev op n0 n1 n2 2 hop) (Ev.now _)
theorem ruses_ev (op : Nat) (n0 n1 n2 : Int) (hop : op ≤ 255) : Ev (fun k => interlockref02_Uses.f k (op : Int) n0 n1 n2) (regN (shpAt (op : Int)) (xyz n0 n1 n2) 3 3 : Int) := Ev.bind (rof_ev op n0 n1 n2 3 hop) (Ev.now _)
theorem rsets_ev (op : Nat) (n0 n1 n2 : Int) (hop : op ≤ 255) : Ev (fun k => interlockref02_Sets.f k (op : Int) n0 n1 n2) (regN (shpAt (op : Int)) (xyz n0 n1 n2) 2 3 : Int) := Ev.bind (rof_ev op n0 n1 n2 2 hop) (Ev.now _)
theorem some_ev {α : Type} {o : Option α} {a : α} (h : o = some a) : Ev (fun _ => o) a := by rw [h]; exact Ev.now a
end Go.Proofs.Yticdodbnjlnjlaa.Th
