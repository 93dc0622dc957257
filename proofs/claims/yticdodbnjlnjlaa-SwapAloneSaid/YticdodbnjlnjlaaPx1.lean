-- written by this project's xprint.py (a turn of the kit's printer; its own texts among them)
import Derived.Test.YticdodbnjlnjlaaPx0
namespace Go.Proofs.Yticdodbnjlnjlaa.P
open Go.RowKit Go.Proofs.YticdodbnjlnjlaaW.PrintWords Go.Proofs.YticdodbnjlnjlaaW.PrintLast Go.Proofs.YticdodbnjlnjlaaW.PrintMore
attribute [local go_sem] max2_int min2_int max_two min_two max_three min_three max_four min_four   -- for this text's walks alone
attribute [local irreducible] Calls
set_option linter.unusedVariables false
set_option linter.unusedSimpArgs false

/-! ### interlocklaw02_Ins: function 16 -/
mutual
def interlocklaw02_Ins.j0 : Nat → Int → Int → Int → Int → Int → Int → Int → Int → Bool → Option (Int × Int × Int × Int)
  | 0, _, _, _, _, _, _, _, _, _ => none
  | k + 1, x1, x2, x3, x10, x11, x12, x13, x34, x50 => if x50 = true then (some (x10, x11, x12, (Int.tdiv x1 16) % 4)) else (if x34 = 7 then (some (x10, x11, x13, 0)) else (if x34 = 8 then (some (x10, x13, x11, 0)) else (if x34 = 9 then (some (x10, x11, 0, 0)) else (if x34 = 10 then (some (x10, mn (wrap64 ((wrap64 (x2 + 1)) + x12)) x3, 0, 0)) else (if x34 = 11 then (if x1 ≥ 200 then (some (x10, x11, mx (wrap64 (x2 - x12)) 0, 0)) else (some (x10, x11, mn (wrap64 ((wrap64 (x2 + 1)) + x12)) x3, 0))) else (if x34 = 18 then (some (x10, 0, x11, 0)) else (if x34 = 19 then (some (x10, x11, 0, x12)) else (if x34 = 20 then (some (x10, 0, x11, 0)) else (if x34 = 17 then (interlocklaw02_Ins.j1 k x1 x10 x11 x12 x34 (x34 == 17)) else (if x34 = 21 then (interlocklaw02_Ins.j1 k x1 x10 x11 x12 x34 (x34 == 21)) else (interlocklaw02_Ins.j1 k x1 x10 x11 x12 x34 (x34 == 26))))))))))))
def interlocklaw02_Ins.j1 : Nat → Int → Int → Int → Int → Int → Bool → Option (Int × Int × Int × Int)
  | 0, _, _, _, _, _, _ => none
  | k + 1, x1, x10, x11, x12, x34, x126 => if x126 = true then (some (x10, x11, 0, 0)) else (if x34 = 22 then (some (x10, x11, 0, x12)) else (if x34 = 24 then (some (x10, 0, wrap64 ((wrap64 (Int.tmod x1 3)) - 1), 0)) else (some (x10, 0, 0, 0))))
end
def interlocklaw02_Ins.f (k : Nat) (a0 : Int) (a1 : Int) (a2 : Int) (a3 : Int) : Option (Int × Int × Int × Int) := (some (([7, 8, 9, 1, 3, 7, 8, 9, 13, 14, 15, 16, 17, 18, 19, 20, 21, 22, 23, 24, 25, 26, 27, 11, 10, 0, 2, 4, 5, 6, 7, 8, 13, 14, 9, 8] : List Int) : List Int)).bind fun y102 => (if (y102.length : Int) = 0 then (none) else (if 0 ≤ (Int.tmod (wrap64 (a0)) (y102.length : Int)) then (if (Int.tmod (wrap64 (a0)) (y102.length : Int)) < (y102.length : Int) then (if (rd y102 (Int.tmod (wrap64 (a0)) (y102.length : Int))) = 1 then (some (rd y102 (Int.tmod (wrap64 (a0)) (y102.length : Int)), wrap64 (Int.tmod a1 4), (Int.tdiv a1 4) % 8, 0)) else (if (rd y102 (Int.tmod (wrap64 (a0)) (y102.length : Int))) = 2 then (some (rd y102 (Int.tmod (wrap64 (a0)) (y102.length : Int)), wrap64 (Int.tmod a1 4), (Int.tdiv a1 4) % 4, 0)) else (if (rd y102 (Int.tmod (wrap64 (a0)) (y102.length : Int))) = 3 then (interlocklaw02_Ins.j0 k a1 a2 a3 (rd y102 (Int.tmod (wrap64 (a0)) (y102.length : Int))) (wrap64 (Int.tmod a1 4)) ((Int.tdiv a1 4) % 4) ((Int.tdiv a1 16) % 2) (rd y102 (Int.tmod (wrap64 (a0)) (y102.length : Int))) ((rd y102 (Int.tmod (wrap64 (a0)) (y102.length : Int))) == 3)) else (if (rd y102 (Int.tmod (wrap64 (a0)) (y102.length : Int))) = 4 then (interlocklaw02_Ins.j0 k a1 a2 a3 (rd y102 (Int.tmod (wrap64 (a0)) (y102.length : Int))) (wrap64 (Int.tmod a1 4)) ((Int.tdiv a1 4) % 4) ((Int.tdiv a1 16) % 2) (rd y102 (Int.tmod (wrap64 (a0)) (y102.length : Int))) ((rd y102 (Int.tmod (wrap64 (a0)) (y102.length : Int))) == 4)) else (if (rd y102 (Int.tmod (wrap64 (a0)) (y102.length : Int))) = 5 then (interlocklaw02_Ins.j0 k a1 a2 a3 (rd y102 (Int.tmod (wrap64 (a0)) (y102.length : Int))) (wrap64 (Int.tmod a1 4)) ((Int.tdiv a1 4) % 4) ((Int.tdiv a1 16) % 2) (rd y102 (Int.tmod (wrap64 (a0)) (y102.length : Int))) ((rd y102 (Int.tmod (wrap64 (a0)) (y102.length : Int))) == 5)) else (interlocklaw02_Ins.j0 k a1 a2 a3 (rd y102 (Int.tmod (wrap64 (a0)) (y102.length : Int))) (wrap64 (Int.tmod a1 4)) ((Int.tdiv a1 4) % 4) ((Int.tdiv a1 16) % 2) (rd y102 (Int.tmod (wrap64 (a0)) (y102.length : Int))) ((rd y102 (Int.tmod (wrap64 (a0)) (y102.length : Int))) == 6))))))) else (none)) else (none)))
theorem interlocklaw02_Ins.mono_l : ∀ k, (∀ y0 y1 y2 y3 y4 y5 y6 y7 y8, LeO (interlocklaw02_Ins.j0 k y0 y1 y2 y3 y4 y5 y6 y7 y8) (interlocklaw02_Ins.j0 (k + 1) y0 y1 y2 y3 y4 y5 y6 y7 y8)) ∧ (∀ y0 y1 y2 y3 y4 y5, LeO (interlocklaw02_Ins.j1 k y0 y1 y2 y3 y4 y5) (interlocklaw02_Ins.j1 (k + 1) y0 y1 y2 y3 y4 y5))
  | 0 => ⟨fun _ _ _ _ _ _ _ _ _ r h => by simp [interlocklaw02_Ins.j0] at h, fun _ _ _ _ _ _ r h => by simp [interlocklaw02_Ins.j1] at h⟩
  | k + 1 => by
    obtain ⟨ih0, ih1⟩ := interlocklaw02_Ins.mono_l k
    refine ⟨?_, ?_⟩
    · intro y0 y1 y2 y3 y4 y5 y6 y7 y8
      unfold interlocklaw02_Ins.j0
      repeat' first
      | (with_reducible exact ih0 _ _ _ _ _ _ _ _ _)
      | (with_reducible exact ih1 _ _ _ _ _ _)
      | (with_reducible exact LeO.refl _)
      | (with_reducible exact LeO.none _)
      | (with_reducible refine LeO.ite ?_ ?_)
      | (with_reducible refine LeO.bind ?_ (fun _ => ?_))
      | exact ih0 _ _ _ _ _ _ _ _ _
      | exact ih1 _ _ _ _ _ _
      | exact LeO.none _
      | refine LeO.ite ?_ ?_
      | refine LeO.bind ?_ (fun _ => ?_)
    · intro y0 y1 y2 y3 y4 y5
      unfold interlocklaw02_Ins.j1
      repeat' first
      | (with_reducible exact ih0 _ _ _ _ _ _ _ _ _)
      | (with_reducible exact ih1 _ _ _ _ _ _)
      | (with_reducible exact LeO.refl _)
      | (with_reducible exact LeO.none _)
      | (with_reducible refine LeO.ite ?_ ?_)
      | (with_reducible refine LeO.bind ?_ (fun _ => ?_))
      | exact ih0 _ _ _ _ _ _ _ _ _
      | exact ih1 _ _ _ _ _ _
      | exact LeO.none _
      | refine LeO.ite ?_ ?_
      | refine LeO.bind ?_ (fun _ => ?_)
theorem interlocklaw02_Ins.mono : ∀ a0 a1 a2 a3 k, LeO (interlocklaw02_Ins.f k a0 a1 a2 a3) (interlocklaw02_Ins.f (k + 1) a0 a1 a2 a3) := by
  intro a0 a1 a2 a3 k
  obtain ⟨ih0, ih1⟩ := interlocklaw02_Ins.mono_l k
  unfold interlocklaw02_Ins.f
  repeat' first
      | (with_reducible exact ih0 _ _ _ _ _ _ _ _ _)
      | (with_reducible exact ih1 _ _ _ _ _ _)
      | (with_reducible exact LeO.refl _)
      | (with_reducible exact LeO.none _)
      | (with_reducible refine LeO.ite ?_ ?_)
      | (with_reducible refine LeO.bind ?_ (fun _ => ?_))
      | exact ih0 _ _ _ _ _ _ _ _ _
      | exact ih1 _ _ _ _ _ _
      | exact LeO.none _
      | refine LeO.ite ?_ ?_
      | refine LeO.bind ?_ (fun _ => ?_)
set_option maxHeartbeats 8000000 in
set_option maxRecDepth 100000 in
theorem interlocklaw02_Ins.calls (k : Nat) (a0 : Int) (a1 : Int) (a2 : Int) (a3 : Int) (r1 : Int) (r2 : Int) (r3 : Int) (r4 : Int) (w : World) (h : interlocklaw02_Ins.f k a0 a1 a2 a3 = some (r1, r2, r3, r4)) :
    Calls Try.prog 16 #[.int .u8 a0, .int .u8 a1, .int .i64 a2, .int .i64 a3] w fun e w' => e = .returned (.agg #[.int .u8 r1, .int .i64 r2, .int .i64 r3, .int .i64 r4]) ∧ Below w.heap.size w w' := by
 have hu33 := Try.underlying33
 have HB := Aside0.mk (Below.refl w.heap.size w)
 have H : ((some (([7, 8, 9, 1, 3, 7, 8, 9, 13, 14, 15, 16, 17, 18, 19, 20, 21, 22, 23, 24, 25, 26, 27, 11, 10, 0, 2, 4, 5, 6, 7, 8, 13, 14, 9, 8] : List Int) : List Int)).bind fun y102 => (if (y102.length : Int) = 0 then (none) else (if 0 ≤ (Int.tmod (wrap64 (a0)) (y102.length : Int)) then (if (Int.tmod (wrap64 (a0)) (y102.length : Int)) < (y102.length : Int) then (if (rd y102 (Int.tmod (wrap64 (a0)) (y102.length : Int))) = 1 then (some (rd y102 (Int.tmod (wrap64 (a0)) (y102.length : Int)), wrap64 (Int.tmod a1 4), (Int.tdiv a1 4) % 8, 0)) else (if (rd y102 (Int.tmod (wrap64 (a0)) (y102.length : Int))) = 2 then (some (rd y102 (Int.tmod (wrap64 (a0)) (y102.length : Int)), wrap64 (Int.tmod a1 4), (Int.tdiv a1 4) % 4, 0)) else (if (rd y102 (Int.tmod (wrap64 (a0)) (y102.length : Int))) = 3 then (interlocklaw02_Ins.j0 k a1 a2 a3 (rd y102 (Int.tmod (wrap64 (a0)) (y102.length : Int))) (wrap64 (Int.tmod a1 4)) ((Int.tdiv a1 4) % 4) ((Int.tdiv a1 16) % 2) (rd y102 (Int.tmod (wrap64 (a0)) (y102.length : Int))) ((rd y102 (Int.tmod (wrap64 (a0)) (y102.length : Int))) == 3)) else (if (rd y102 (Int.tmod (wrap64 (a0)) (y102.length : Int))) = 4 then (interlocklaw02_Ins.j0 k a1 a2 a3 (rd y102 (Int.tmod (wrap64 (a0)) (y102.length : Int))) (wrap64 (Int.tmod a1 4)) ((Int.tdiv a1 4) % 4) ((Int.tdiv a1 16) % 2) (rd y102 (Int.tmod (wrap64 (a0)) (y102.length : Int))) ((rd y102 (Int.tmod (wrap64 (a0)) (y102.length : Int))) == 4)) else (if (rd y102 (Int.tmod (wrap64 (a0)) (y102.length : Int))) = 5 then (interlocklaw02_Ins.j0 k a1 a2 a3 (rd y102 (Int.tmod (wrap64 (a0)) (y102.length : Int))) (wrap64 (Int.tmod a1 4)) ((Int.tdiv a1 4) % 4) ((Int.tdiv a1 16) % 2) (rd y102 (Int.tmod (wrap64 (a0)) (y102.length : Int))) ((rd y102 (Int.tmod (wrap64 (a0)) (y102.length : Int))) == 5)) else (interlocklaw02_Ins.j0 k a1 a2 a3 (rd y102 (Int.tmod (wrap64 (a0)) (y102.length : Int))) (wrap64 (Int.tmod a1 4)) ((Int.tdiv a1 4) % 4) ((Int.tdiv a1 16) % 2) (rd y102 (Int.tmod (wrap64 (a0)) (y102.length : Int))) ((rd y102 (Int.tmod (wrap64 (a0)) (y102.length : Int))) == 6))))))) else (none)) else (none)))) = some (r1, r2, r3, r4) := h
 clear h
 obtain ⟨y102, hy102⟩ : ∃ y_ : List Int, y_ = (([7, 8, 9, 1, 3, 7, 8, 9, 13, 14, 15, 16, 17, 18, 19, 20, 21, 22, 23, 24, 25, 26, 27, 11, 10, 0, 2, 4, 5, 6, 7, 8, 13, 14, 9, 8] : List Int)) := ⟨_, rfl⟩
 replace H : (if (y102.length : Int) = 0 then (none) else (if 0 ≤ (Int.tmod (wrap64 (a0)) (y102.length : Int)) then (if (Int.tmod (wrap64 (a0)) (y102.length : Int)) < (y102.length : Int) then (if (rd y102 (Int.tmod (wrap64 (a0)) (y102.length : Int))) = 1 then (some (rd y102 (Int.tmod (wrap64 (a0)) (y102.length : Int)), wrap64 (Int.tmod a1 4), (Int.tdiv a1 4) % 8, 0)) else (if (rd y102 (Int.tmod (wrap64 (a0)) (y102.length : Int))) = 2 then (some (rd y102 (Int.tmod (wrap64 (a0)) (y102.length : Int)), wrap64 (Int.tmod a1 4), (Int.tdiv a1 4) % 4, 0)) else (if (rd y102 (Int.tmod (wrap64 (a0)) (y102.length : Int))) = 3 then (interlocklaw02_Ins.j0 k a1 a2 a3 (rd y102 (Int.tmod (wrap64 (a0)) (y102.length : Int))) (wrap64 (Int.tmod a1 4)) ((Int.tdiv a1 4) % 4) ((Int.tdiv a1 16) % 2) (rd y102 (Int.tmod (wrap64 (a0)) (y102.length : Int))) ((rd y102 (Int.tmod (wrap64 (a0)) (y102.length : Int))) == 3)) else (if (rd y102 (Int.tmod (wrap64 (a0)) (y102.length : Int))) = 4 then (interlocklaw02_Ins.j0 k a1 a2 a3 (rd y102 (Int.tmod (wrap64 (a0)) (y102.length : Int))) (wrap64 (Int.tmod a1 4)) ((Int.tdiv a1 4) % 4) ((Int.tdiv a1 16) % 2) (rd y102 (Int.tmod (wrap64 (a0)) (y102.length : Int))) ((rd y102 (Int.tmod (wrap64 (a0)) (y102.length : Int))) == 4)) else (if (rd y102 (Int.tmod (wrap64 (a0)) (y102.length : Int))) = 5 then (interlocklaw02_Ins.j0 k a1 a2 a3 (rd y102 (Int.tmod (wrap64 (a0)) (y102.length : Int))) (wrap64 (Int.tmod a1 4)) ((Int.tdiv a1 4) % 4) ((Int.tdiv a1 16) % 2) (rd y102 (Int.tmod (wrap64 (a0)) (y102.length : Int))) ((rd y102 (Int.tmod (wrap64 (a0)) (y102.length : Int))) == 5)) else (interlocklaw02_Ins.j0 k a1 a2 a3 (rd y102 (Int.tmod (wrap64 (a0)) (y102.length : Int))) (wrap64 (Int.tmod a1 4)) ((Int.tdiv a1 4) % 4) ((Int.tdiv a1 16) % 2) (rd y102 (Int.tmod (wrap64 (a0)) (y102.length : Int))) ((rd y102 (Int.tmod (wrap64 (a0)) (y102.length : Int))) == 6))))))) else (none)) else (none))) = some (r1, r2, r3, r4) := by first | (rw [hy102]; with_reducible exact H) | (have H2_ := (Option.bind_some _ _).symm.trans H; rw [hy102]; with_reducible exact H2_) | (have H2_ := (Option.bind_some _ _).symm.trans H; with_reducible exact H2_) | with_reducible exact H | (rw [hy102]; exact H) | exact H
 have Ny102 := Aside0.mk hy102
 clear hy102
 by_cases c5 : (y102.length : Int) = 0
 {
 rw [if_pos c5] at H
 exact absurd H (by simp)
 }
 {
 rw [if_neg c5] at H
 have c5b0 : ((y102.length : Int) == 0) = false := beq_eq_false_iff_ne.mpr c5
 have c5b1 : ((y102.length : Int) != 0) = true := bne_iff_ne.mpr c5
 have c5b2 : ¬ (y102 = []) := fun h_ => c5 (by rw [h_]; rfl)
 obtain ⟨ji6, hji6⟩ : ∃ j_ : Int, (Int.tmod (wrap64 (a0)) (y102.length : Int)) = j_ := ⟨_, rfl⟩
 replace H : (if 0 ≤ (ji6) then (if (ji6) < (y102.length : Int) then (if (rd y102 (ji6)) = 1 then (some (rd y102 (ji6), wrap64 (Int.tmod a1 4), (Int.tdiv a1 4) % 8, 0)) else (if (rd y102 (ji6)) = 2 then (some (rd y102 (ji6), wrap64 (Int.tmod a1 4), (Int.tdiv a1 4) % 4, 0)) else (if (rd y102 (ji6)) = 3 then (interlocklaw02_Ins.j0 k a1 a2 a3 (rd y102 (ji6)) (wrap64 (Int.tmod a1 4)) ((Int.tdiv a1 4) % 4) ((Int.tdiv a1 16) % 2) (rd y102 (ji6)) ((rd y102 (ji6)) == 3)) else (if (rd y102 (ji6)) = 4 then (interlocklaw02_Ins.j0 k a1 a2 a3 (rd y102 (ji6)) (wrap64 (Int.tmod a1 4)) ((Int.tdiv a1 4) % 4) ((Int.tdiv a1 16) % 2) (rd y102 (ji6)) ((rd y102 (ji6)) == 4)) else (if (rd y102 (ji6)) = 5 then (interlocklaw02_Ins.j0 k a1 a2 a3 (rd y102 (ji6)) (wrap64 (Int.tmod a1 4)) ((Int.tdiv a1 4) % 4) ((Int.tdiv a1 16) % 2) (rd y102 (ji6)) ((rd y102 (ji6)) == 5)) else (interlocklaw02_Ins.j0 k a1 a2 a3 (rd y102 (ji6)) (wrap64 (Int.tmod a1 4)) ((Int.tdiv a1 4) % 4) ((Int.tdiv a1 16) % 2) (rd y102 (ji6)) ((rd y102 (ji6)) == 6))))))) else (none)) else (none)) = some (r1, r2, r3, r4) := by first | (rw [hji6] at H; exact H) | (simp only [hji6] at H ⊢; exact H)
 have hji6q : Int.tmod (IntKind.i64.wrap (a0)) (y102.length : Int) = ji6 := by first | (rw [i64_w]; exact hji6) | (simp only [i64_w]; exact hji6)
 by_cases c7 : 0 ≤ (ji6)
 {
 rw [if_pos c7] at H
 have c7b0 : decide (0 ≤ (ji6)) = true := decide_eq_true c7
 clear c7
 by_cases c8 : (ji6) < (y102.length : Int)
 {
 rw [if_pos c8] at H
 have c8b0 : decide ((ji6) < (y102.length : Int)) = true := decide_eq_true c8
 clear c8
 by_cases c9 : (rd y102 (ji6)) = 1
 {
 rw [if_pos c9] at H
 have c9b0 : ((rd y102 (ji6)) == 1) = true := beq_iff_eq.mpr c9
 have c9b1 : ((rd y102 (ji6)) != 1) = false := bne_eq_false_iff_eq.mpr c9
 clear c9
 simp only [Option.some.injEq, Prod.mk.injEq] at H
 obtain ⟨rfl, rfl, rfl, rfl⟩ := H
 go_enter Try.func16, Try.ntmps16
 go_wp2_with (first | ((with_reducible refine gate_dst (N := 8) rfl ?_); refine box_event ?hg (N := 8) ?hd (cs := #[.int .u8 0, .int .i64 0, .int .i64 0, .int .i64 0]) (t := 33) ?hr ?_; (case hd => rfl); (case hg => rfl); (case hr => first | (go_simp; done) | (go_simp; rfl)); intro gb101 hg w10 hbox hb; have n0_ := Aside0.mk (below_step (by repeat (first | (with_reducible first | exact HB.out | apply below_alloc | apply pw_below_drewN | apply below_drew1) | exact HB.out)) hb); have n1_ := Aside0.mk (hbox); have n2_ := Aside0.mk ((by rw [hg]; exact (below_size (by repeat (first | (with_reducible first | exact HB.out | apply below_alloc | apply pw_below_drewN | apply below_drew1) | exact HB.out))) : w.heap.size ≤ gb101)); have n3_ := Aside0.mk ((by rw [hg]; exact (below_size (by repeat (first | (with_reducible first | exact HB.out | apply below_alloc | apply pw_below_drewN | apply below_drew1) | exact HB.out))) : w.heap.size ≤ gb101)); clear HB; have HB := n0_; have BK101 := n1_; have GW101 := n2_; have GE101 := n3_; clear n0_ n1_ n2_ n3_; clear hb hbox hg) | ((with_reducible refine gate_dst (N := 14) rfl ?_); refine Kd.R_lit (Kd.int .u8) _ 5 ?hg (N := 14) ?hd (xs := ([7, 8, 9, 1, 3, 7, 8, 9, 13, 14, 15, 16, 17, 18, 19, 20, 21, 22, 23, 24, 25, 26, 27, 11, 10, 0, 2, 4, 5, 6, 7, 8, 13, 14, 9, 8] : List Int)) (inner := [.int .u8 7, .int .u8 8, .int .u8 9, .int .u8 1, .int .u8 3, .int .u8 7, .int .u8 8, .int .u8 9, .int .u8 13, .int .u8 14, .int .u8 15, .int .u8 16, .int .u8 17, .int .u8 18, .int .u8 19, .int .u8 20, .int .u8 21, .int .u8 22, .int .u8 23, .int .u8 24, .int .u8 25, .int .u8 26, .int .u8 27, .int .u8 11, .int .u8 10, .int .u8 0, .int .u8 2, .int .u8 4, .int .u8 5, .int .u8 6, .int .u8 7, .int .u8 8, .int .u8 13, .int .u8 14, .int .u8 9, .int .u8 8]) (ok := fun _ => True) (okp := fun _ => True) ?hr ?hp (fun _ hk => hk) trivial (Below.refl _ _) (Nat.le_refl _) (by simp) ?_; (case hd => rfl); (case hg => rfl); (case hr => first | (go_simp; done) | (go_simp; rfl)); (case hp => exact (Reps.one (show Kd.M (Kd.int .u8) _ _ _ 7 [.int .u8 7] from rfl) (Reps.one (show Kd.M (Kd.int .u8) _ _ _ 8 [.int .u8 8] from rfl) (Reps.one (show Kd.M (Kd.int .u8) _ _ _ 9 [.int .u8 9] from rfl) (Reps.one (show Kd.M (Kd.int .u8) _ _ _ 1 [.int .u8 1] from rfl) (Reps.one (show Kd.M (Kd.int .u8) _ _ _ 3 [.int .u8 3] from rfl) (Reps.one (show Kd.M (Kd.int .u8) _ _ _ 7 [.int .u8 7] from rfl) (Reps.one (show Kd.M (Kd.int .u8) _ _ _ 8 [.int .u8 8] from rfl) (Reps.one (show Kd.M (Kd.int .u8) _ _ _ 9 [.int .u8 9] from rfl) (Reps.one (show Kd.M (Kd.int .u8) _ _ _ 13 [.int .u8 13] from rfl) (Reps.one (show Kd.M (Kd.int .u8) _ _ _ 14 [.int .u8 14] from rfl) (Reps.one (show Kd.M (Kd.int .u8) _ _ _ 15 [.int .u8 15] from rfl) (Reps.one (show Kd.M (Kd.int .u8) _ _ _ 16 [.int .u8 16] from rfl) (Reps.one (show Kd.M (Kd.int .u8) _ _ _ 17 [.int .u8 17] from rfl) (Reps.one (show Kd.M (Kd.int .u8) _ _ _ 18 [.int .u8 18] from rfl) (Reps.one (show Kd.M (Kd.int .u8) _ _ _ 19 [.int .u8 19] from rfl) (Reps.one (show Kd.M (Kd.int .u8) _ _ _ 20 [.int .u8 20] from rfl) (Reps.one (show Kd.M (Kd.int .u8) _ _ _ 21 [.int .u8 21] from rfl) (Reps.one (show Kd.M (Kd.int .u8) _ _ _ 22 [.int .u8 22] from rfl) (Reps.one (show Kd.M (Kd.int .u8) _ _ _ 23 [.int .u8 23] from rfl) (Reps.one (show Kd.M (Kd.int .u8) _ _ _ 24 [.int .u8 24] from rfl) (Reps.one (show Kd.M (Kd.int .u8) _ _ _ 25 [.int .u8 25] from rfl) (Reps.one (show Kd.M (Kd.int .u8) _ _ _ 26 [.int .u8 26] from rfl) (Reps.one (show Kd.M (Kd.int .u8) _ _ _ 27 [.int .u8 27] from rfl) (Reps.one (show Kd.M (Kd.int .u8) _ _ _ 11 [.int .u8 11] from rfl) (Reps.one (show Kd.M (Kd.int .u8) _ _ _ 10 [.int .u8 10] from rfl) (Reps.one (show Kd.M (Kd.int .u8) _ _ _ 0 [.int .u8 0] from rfl) (Reps.one (show Kd.M (Kd.int .u8) _ _ _ 2 [.int .u8 2] from rfl) (Reps.one (show Kd.M (Kd.int .u8) _ _ _ 4 [.int .u8 4] from rfl) (Reps.one (show Kd.M (Kd.int .u8) _ _ _ 5 [.int .u8 5] from rfl) (Reps.one (show Kd.M (Kd.int .u8) _ _ _ 6 [.int .u8 6] from rfl) (Reps.one (show Kd.M (Kd.int .u8) _ _ _ 7 [.int .u8 7] from rfl) (Reps.one (show Kd.M (Kd.int .u8) _ _ _ 8 [.int .u8 8] from rfl) (Reps.one (show Kd.M (Kd.int .u8) _ _ _ 13 [.int .u8 13] from rfl) (Reps.one (show Kd.M (Kd.int .u8) _ _ _ 14 [.int .u8 14] from rfl) (Reps.one (show Kd.M (Kd.int .u8) _ _ _ 9 [.int .u8 9] from rfl) (Reps.one (show Kd.M (Kd.int .u8) _ _ _ 8 [.int .u8 8] from rfl) (Reps.none _ _)))))))))))))))))))))))))))))))))))))); intro v103 w11 ho12 hb hg_ hnew_; clear hg_ hnew_; (first | rw [← Ny102.out] at ho12 | (simp only [Int.reduceToNat] at ho12; rw [← Ny102.out] at ho12)); have n0_ := Aside0.mk (Kd.R_lower ho12 (below_size (by repeat (first | (with_reducible first | exact HB.out | apply below_alloc | apply pw_below_drewN | apply below_drew1 | refine below_set ?_ GE101.out) | exact HB.out)))); have n1_ := Aside0.mk (blk_below (g := gb101) (o := .cells #[.int .u8 0, .int .i64 0, .int .i64 0, .int .i64 0] 33 (0, 0)) (by (with_reducible repeat (first | refine blk_drewN ?_ _ | refine blk_drew ?_ | refine blk_alloc ?_ _)); exact BK101.out) hb); have n2_ := Aside0.mk (below_step (by repeat (first | (with_reducible first | exact HB.out | apply below_alloc | apply pw_below_drewN | apply below_drew1 | refine below_set ?_ GE101.out) | exact HB.out)) hb); clear BK101; clear HB; have HO104 := n0_; have BK101 := n1_; have HB := n2_; clear n0_ n1_ n2_; clear hb ho12; obtain ⟨Ao13, co13, eo13⟩ := Kd.R_slice HO104.out; subst eo13; have p105 : 0 ≤ ((ji6) : Int) := of_decide_eq_true (by first | (with_reducible assumption) | assumption); have q105 : (ji6) < (y102.length : Int) := of_decide_eq_true (by first | (with_reducible assumption) | assumption); obtain ⟨ad105, e105, hx105_0⟩ := Kd.at_int (Kd.R_reads' HO104.out).2.2 (ji6) p105 q105; cases e105; replace p105 := eq_true p105; replace q105 := eq_true q105; have hcz14_0 : w11.cell? ⟨gb101, 0, none⟩ = some (.int .u8 0) := (blk_cell BK101.out 0).trans rfl; have hcz14_1 : w11.cell? ⟨gb101, 1, none⟩ = some (.int .i64 0) := (blk_cell BK101.out 1).trans rfl; have hcz14_2 : w11.cell? ⟨gb101, 2, none⟩ = some (.int .i64 0) := (blk_cell BK101.out 2).trans rfl; have hcz14_3 : w11.cell? ⟨gb101, 3, none⟩ = some (.int .i64 0) := (blk_cell BK101.out 3).trans rfl; have hfz14_0 := blk_frozen BK101.out 0; have hfz14_1 := blk_frozen BK101.out 1; have hfz14_2 := blk_frozen BK101.out 2; have hfz14_3 := blk_frozen BK101.out 3))
 refine bodyPost_ret (results_cell_row rfl _ _ gb101 33 #[.int .u8 (rd y102 (ji6)), .int .i64 (wrap64 (Int.tmod a1 4)), .int .i64 ((Int.tdiv a1 4) % 8), .int .i64 0] (0, 0) _ rfl (by (with_reducible repeat (first | refine blk_drewN ?_ _ | refine blk_drew ?_ | refine blk_alloc ?_ _)); refine blk_put (cs := #[.int .u8 (rd y102 (ji6)), .int .i64 (wrap64 (Int.tmod a1 4)), .int .i64 ((Int.tdiv a1 4) % 8), .int .i64 0]) ?_ 3 _ rfl; (with_reducible repeat (first | refine blk_drewN ?_ _ | refine blk_drew ?_ | refine blk_alloc ?_ _)); refine blk_put (cs := #[.int .u8 (rd y102 (ji6)), .int .i64 (wrap64 (Int.tmod a1 4)), .int .i64 0, .int .i64 0]) ?_ 2 _ rfl; (with_reducible repeat (first | refine blk_drewN ?_ _ | refine blk_drew ?_ | refine blk_alloc ?_ _)); refine blk_put (cs := #[.int .u8 (rd y102 (ji6)), .int .i64 0, .int .i64 0, .int .i64 0]) ?_ 1 _ rfl; (with_reducible repeat (first | refine blk_drewN ?_ _ | refine blk_drew ?_ | refine blk_alloc ?_ _)); refine blk_put (cs := #[.int .u8 0, .int .i64 0, .int .i64 0, .int .i64 0]) ?_ 0 _ rfl; (with_reducible repeat (first | refine blk_drewN ?_ _ | refine blk_drew ?_ | refine blk_alloc ?_ _)); exact BK101.out) Try.underlying33 rfl (by kernel_rfl)) rfl ?_
 exact ⟨by first | rfl | (simp [errW_none, errW_some] <;> rfl) | (simp only [← hji6]; first | rfl | (simp [errW_none, errW_some] <;> rfl)) | (simp [*, errW_none, errW_some] <;> rfl), by repeat (first | (with_reducible first | exact HB.out | apply below_alloc | apply pw_below_drewN | apply below_drew1 | refine below_set ?_ GE101.out) | exact HB.out)⟩
 }
 {
 rw [if_neg c9] at H
 have c9b0 : ((rd y102 (ji6)) == 1) = false := beq_eq_false_iff_ne.mpr c9
 have c9b1 : ((rd y102 (ji6)) != 1) = true := bne_iff_ne.mpr c9
 by_cases c15 : (rd y102 (ji6)) = 2
 {
 rw [if_pos c15] at H
 have c15b0 : ((rd y102 (ji6)) == 2) = true := beq_iff_eq.mpr c15
 have c15b1 : ((rd y102 (ji6)) != 2) = false := bne_eq_false_iff_eq.mpr c15
 clear c15
 simp only [Option.some.injEq, Prod.mk.injEq] at H
 obtain ⟨rfl, rfl, rfl, rfl⟩ := H
 go_enter Try.func16, Try.ntmps16
 go_wp2_with (first | ((with_reducible refine gate_dst (N := 8) rfl ?_); refine box_event ?hg (N := 8) ?hd (cs := #[.int .u8 0, .int .i64 0, .int .i64 0, .int .i64 0]) (t := 33) ?hr ?_; (case hd => rfl); (case hg => rfl); (case hr => first | (go_simp; done) | (go_simp; rfl)); intro gb101 hg w16 hbox hb; have n0_ := Aside0.mk (below_step (by repeat (first | (with_reducible first | exact HB.out | apply below_alloc | apply pw_below_drewN | apply below_drew1) | exact HB.out)) hb); have n1_ := Aside0.mk (hbox); have n2_ := Aside0.mk ((by rw [hg]; exact (below_size (by repeat (first | (with_reducible first | exact HB.out | apply below_alloc | apply pw_below_drewN | apply below_drew1) | exact HB.out))) : w.heap.size ≤ gb101)); have n3_ := Aside0.mk ((by rw [hg]; exact (below_size (by repeat (first | (with_reducible first | exact HB.out | apply below_alloc | apply pw_below_drewN | apply below_drew1) | exact HB.out))) : w.heap.size ≤ gb101)); clear HB; have HB := n0_; have BK101 := n1_; have GW101 := n2_; have GE101 := n3_; clear n0_ n1_ n2_ n3_; clear hb hbox hg) | ((with_reducible refine gate_dst (N := 14) rfl ?_); refine Kd.R_lit (Kd.int .u8) _ 5 ?hg (N := 14) ?hd (xs := ([7, 8, 9, 1, 3, 7, 8, 9, 13, 14, 15, 16, 17, 18, 19, 20, 21, 22, 23, 24, 25, 26, 27, 11, 10, 0, 2, 4, 5, 6, 7, 8, 13, 14, 9, 8] : List Int)) (inner := [.int .u8 7, .int .u8 8, .int .u8 9, .int .u8 1, .int .u8 3, .int .u8 7, .int .u8 8, .int .u8 9, .int .u8 13, .int .u8 14, .int .u8 15, .int .u8 16, .int .u8 17, .int .u8 18, .int .u8 19, .int .u8 20, .int .u8 21, .int .u8 22, .int .u8 23, .int .u8 24, .int .u8 25, .int .u8 26, .int .u8 27, .int .u8 11, .int .u8 10, .int .u8 0, .int .u8 2, .int .u8 4, .int .u8 5, .int .u8 6, .int .u8 7, .int .u8 8, .int .u8 13, .int .u8 14, .int .u8 9, .int .u8 8]) (ok := fun _ => True) (okp := fun _ => True) ?hr ?hp (fun _ hk => hk) trivial (Below.refl _ _) (Nat.le_refl _) (by simp) ?_; (case hd => rfl); (case hg => rfl); (case hr => first | (go_simp; done) | (go_simp; rfl)); (case hp => exact (Reps.one (show Kd.M (Kd.int .u8) _ _ _ 7 [.int .u8 7] from rfl) (Reps.one (show Kd.M (Kd.int .u8) _ _ _ 8 [.int .u8 8] from rfl) (Reps.one (show Kd.M (Kd.int .u8) _ _ _ 9 [.int .u8 9] from rfl) (Reps.one (show Kd.M (Kd.int .u8) _ _ _ 1 [.int .u8 1] from rfl) (Reps.one (show Kd.M (Kd.int .u8) _ _ _ 3 [.int .u8 3] from rfl) (Reps.one (show Kd.M (Kd.int .u8) _ _ _ 7 [.int .u8 7] from rfl) (Reps.one (show Kd.M (Kd.int .u8) _ _ _ 8 [.int .u8 8] from rfl) (Reps.one (show Kd.M (Kd.int .u8) _ _ _ 9 [.int .u8 9] from rfl) (Reps.one (show Kd.M (Kd.int .u8) _ _ _ 13 [.int .u8 13] from rfl) (Reps.one (show Kd.M (Kd.int .u8) _ _ _ 14 [.int .u8 14] from rfl) (Reps.one (show Kd.M (Kd.int .u8) _ _ _ 15 [.int .u8 15] from rfl) (Reps.one (show Kd.M (Kd.int .u8) _ _ _ 16 [.int .u8 16] from rfl) (Reps.one (show Kd.M (Kd.int .u8) _ _ _ 17 [.int .u8 17] from rfl) (Reps.one (show Kd.M (Kd.int .u8) _ _ _ 18 [.int .u8 18] from rfl) (Reps.one (show Kd.M (Kd.int .u8) _ _ _ 19 [.int .u8 19] from rfl) (Reps.one (show Kd.M (Kd.int .u8) _ _ _ 20 [.int .u8 20] from rfl) (Reps.one (show Kd.M (Kd.int .u8) _ _ _ 21 [.int .u8 21] from rfl) (Reps.one (show Kd.M (Kd.int .u8) _ _ _ 22 [.int .u8 22] from rfl) (Reps.one (show Kd.M (Kd.int .u8) _ _ _ 23 [.int .u8 23] from rfl) (Reps.one (show Kd.M (Kd.int .u8) _ _ _ 24 [.int .u8 24] from rfl) (Reps.one (show Kd.M (Kd.int .u8) _ _ _ 25 [.int .u8 25] from rfl) (Reps.one (show Kd.M (Kd.int .u8) _ _ _ 26 [.int .u8 26] from rfl) (Reps.one (show Kd.M (Kd.int .u8) _ _ _ 27 [.int .u8 27] from rfl) (Reps.one (show Kd.M (Kd.int .u8) _ _ _ 11 [.int .u8 11] from rfl) (Reps.one (show Kd.M (Kd.int .u8) _ _ _ 10 [.int .u8 10] from rfl) (Reps.one (show Kd.M (Kd.int .u8) _ _ _ 0 [.int .u8 0] from rfl) (Reps.one (show Kd.M (Kd.int .u8) _ _ _ 2 [.int .u8 2] from rfl) (Reps.one (show Kd.M (Kd.int .u8) _ _ _ 4 [.int .u8 4] from rfl) (Reps.one (show Kd.M (Kd.int .u8) _ _ _ 5 [.int .u8 5] from rfl) (Reps.one (show Kd.M (Kd.int .u8) _ _ _ 6 [.int .u8 6] from rfl) (Reps.one (show Kd.M (Kd.int .u8) _ _ _ 7 [.int .u8 7] from rfl) (Reps.one (show Kd.M (Kd.int .u8) _ _ _ 8 [.int .u8 8] from rfl) (Reps.one (show Kd.M (Kd.int .u8) _ _ _ 13 [.int .u8 13] from rfl) (Reps.one (show Kd.M (Kd.int .u8) _ _ _ 14 [.int .u8 14] from rfl) (Reps.one (show Kd.M (Kd.int .u8) _ _ _ 9 [.int .u8 9] from rfl) (Reps.one (show Kd.M (Kd.int .u8) _ _ _ 8 [.int .u8 8] from rfl) (Reps.none _ _)))))))))))))))))))))))))))))))))))))); intro v103 w17 ho18 hb hg_ hnew_; clear hg_ hnew_; (first | rw [← Ny102.out] at ho18 | (simp only [Int.reduceToNat] at ho18; rw [← Ny102.out] at ho18)); have n0_ := Aside0.mk (Kd.R_lower ho18 (below_size (by repeat (first | (with_reducible first | exact HB.out | apply below_alloc | apply pw_below_drewN | apply below_drew1 | refine below_set ?_ GE101.out) | exact HB.out)))); have n1_ := Aside0.mk (blk_below (g := gb101) (o := .cells #[.int .u8 0, .int .i64 0, .int .i64 0, .int .i64 0] 33 (0, 0)) (by (with_reducible repeat (first | refine blk_drewN ?_ _ | refine blk_drew ?_ | refine blk_alloc ?_ _)); exact BK101.out) hb); have n2_ := Aside0.mk (below_step (by repeat (first | (with_reducible first | exact HB.out | apply below_alloc | apply pw_below_drewN | apply below_drew1 | refine below_set ?_ GE101.out) | exact HB.out)) hb); clear BK101; clear HB; have HO104 := n0_; have BK101 := n1_; have HB := n2_; clear n0_ n1_ n2_; clear hb ho18; obtain ⟨Ao19, co19, eo19⟩ := Kd.R_slice HO104.out; subst eo19; have p105 : 0 ≤ ((ji6) : Int) := of_decide_eq_true (by first | (with_reducible assumption) | assumption); have q105 : (ji6) < (y102.length : Int) := of_decide_eq_true (by first | (with_reducible assumption) | assumption); obtain ⟨ad105, e105, hx105_0⟩ := Kd.at_int (Kd.R_reads' HO104.out).2.2 (ji6) p105 q105; cases e105; replace p105 := eq_true p105; replace q105 := eq_true q105; have hcz20_0 : w17.cell? ⟨gb101, 0, none⟩ = some (.int .u8 0) := (blk_cell BK101.out 0).trans rfl; have hcz20_1 : w17.cell? ⟨gb101, 1, none⟩ = some (.int .i64 0) := (blk_cell BK101.out 1).trans rfl; have hcz20_2 : w17.cell? ⟨gb101, 2, none⟩ = some (.int .i64 0) := (blk_cell BK101.out 2).trans rfl; have hcz20_3 : w17.cell? ⟨gb101, 3, none⟩ = some (.int .i64 0) := (blk_cell BK101.out 3).trans rfl; have hfz20_0 := blk_frozen BK101.out 0; have hfz20_1 := blk_frozen BK101.out 1; have hfz20_2 := blk_frozen BK101.out 2; have hfz20_3 := blk_frozen BK101.out 3))
 refine bodyPost_ret (results_cell_row rfl _ _ gb101 33 #[.int .u8 (rd y102 (ji6)), .int .i64 (wrap64 (Int.tmod a1 4)), .int .i64 ((Int.tdiv a1 4) % 4), .int .i64 0] (0, 0) _ rfl (by (with_reducible repeat (first | refine blk_drewN ?_ _ | refine blk_drew ?_ | refine blk_alloc ?_ _)); refine blk_put (cs := #[.int .u8 (rd y102 (ji6)), .int .i64 (wrap64 (Int.tmod a1 4)), .int .i64 ((Int.tdiv a1 4) % 4), .int .i64 0]) ?_ 3 _ rfl; (with_reducible repeat (first | refine blk_drewN ?_ _ | refine blk_drew ?_ | refine blk_alloc ?_ _)); refine blk_put (cs := #[.int .u8 (rd y102 (ji6)), .int .i64 (wrap64 (Int.tmod a1 4)), .int .i64 0, .int .i64 0]) ?_ 2 _ rfl; (with_reducible repeat (first | refine blk_drewN ?_ _ | refine blk_drew ?_ | refine blk_alloc ?_ _)); refine blk_put (cs := #[.int .u8 (rd y102 (ji6)), .int .i64 0, .int .i64 0, .int .i64 0]) ?_ 1 _ rfl; (with_reducible repeat (first | refine blk_drewN ?_ _ | refine blk_drew ?_ | refine blk_alloc ?_ _)); refine blk_put (cs := #[.int .u8 0, .int .i64 0, .int .i64 0, .int .i64 0]) ?_ 0 _ rfl; (with_reducible repeat (first | refine blk_drewN ?_ _ | refine blk_drew ?_ | refine blk_alloc ?_ _)); exact BK101.out) Try.underlying33 rfl (by kernel_rfl)) rfl ?_
 exact ⟨by first | rfl | (simp [errW_none, errW_some] <;> rfl) | (simp only [← hji6]; first | rfl | (simp [errW_none, errW_some] <;> rfl)) | (simp [*, errW_none, errW_some] <;> rfl), by repeat (first | (with_reducible first | exact HB.out | apply below_alloc | apply pw_below_drewN | apply below_drew1 | refine below_set ?_ GE101.out) | exact HB.out)⟩
 }
 {
 rw [if_neg c15] at H
 have c15b0 : ((rd y102 (ji6)) == 2) = false := beq_eq_false_iff_ne.mpr c15
 have c15b1 : ((rd y102 (ji6)) != 2) = true := bne_iff_ne.mpr c15
 have HC21 := Aside0.mk H
 clear H
 go_enter Try.func16, Try.ntmps16
 go_upto_if 50 with (first | ((with_reducible refine gate_dst (N := 8) rfl ?_); refine box_event ?hg (N := 8) ?hd (cs := #[.int .u8 0, .int .i64 0, .int .i64 0, .int .i64 0]) (t := 33) ?hr ?_; (case hd => rfl); (case hg => rfl); (case hr => first | (go_simp; done) | (go_simp; rfl)); intro gb101 hg w22 hbox hb; have n0_ := Aside0.mk (below_step (by repeat (first | (with_reducible first | exact HB.out | apply below_alloc | apply pw_below_drewN | apply below_drew1) | exact HB.out)) hb); have n1_ := Aside0.mk (hbox); have n2_ := Aside0.mk ((by rw [hg]; exact (below_size (by repeat (first | (with_reducible first | exact HB.out | apply below_alloc | apply pw_below_drewN | apply below_drew1) | exact HB.out))) : w.heap.size ≤ gb101)); have n3_ := Aside0.mk ((by rw [hg]; exact (below_size (by repeat (first | (with_reducible first | exact HB.out | apply below_alloc | apply pw_below_drewN | apply below_drew1) | exact HB.out))) : w.heap.size ≤ gb101)); clear HB; have HB := n0_; have BK101 := n1_; have GW101 := n2_; have GE101 := n3_; clear n0_ n1_ n2_ n3_; clear hb hbox hg) | ((with_reducible refine gate_dst (N := 14) rfl ?_); refine Kd.R_lit (Kd.int .u8) _ 5 ?hg (N := 14) ?hd (xs := ([7, 8, 9, 1, 3, 7, 8, 9, 13, 14, 15, 16, 17, 18, 19, 20, 21, 22, 23, 24, 25, 26, 27, 11, 10, 0, 2, 4, 5, 6, 7, 8, 13, 14, 9, 8] : List Int)) (inner := [.int .u8 7, .int .u8 8, .int .u8 9, .int .u8 1, .int .u8 3, .int .u8 7, .int .u8 8, .int .u8 9, .int .u8 13, .int .u8 14, .int .u8 15, .int .u8 16, .int .u8 17, .int .u8 18, .int .u8 19, .int .u8 20, .int .u8 21, .int .u8 22, .int .u8 23, .int .u8 24, .int .u8 25, .int .u8 26, .int .u8 27, .int .u8 11, .int .u8 10, .int .u8 0, .int .u8 2, .int .u8 4, .int .u8 5, .int .u8 6, .int .u8 7, .int .u8 8, .int .u8 13, .int .u8 14, .int .u8 9, .int .u8 8]) (ok := fun _ => True) (okp := fun _ => True) ?hr ?hp (fun _ hk => hk) trivial (Below.refl _ _) (Nat.le_refl _) (by simp) ?_; (case hd => rfl); (case hg => rfl); (case hr => first | (go_simp; done) | (go_simp; rfl)); (case hp => exact (Reps.one (show Kd.M (Kd.int .u8) _ _ _ 7 [.int .u8 7] from rfl) (Reps.one (show Kd.M (Kd.int .u8) _ _ _ 8 [.int .u8 8] from rfl) (Reps.one (show Kd.M (Kd.int .u8) _ _ _ 9 [.int .u8 9] from rfl) (Reps.one (show Kd.M (Kd.int .u8) _ _ _ 1 [.int .u8 1] from rfl) (Reps.one (show Kd.M (Kd.int .u8) _ _ _ 3 [.int .u8 3] from rfl) (Reps.one (show Kd.M (Kd.int .u8) _ _ _ 7 [.int .u8 7] from rfl) (Reps.one (show Kd.M (Kd.int .u8) _ _ _ 8 [.int .u8 8] from rfl) (Reps.one (show Kd.M (Kd.int .u8) _ _ _ 9 [.int .u8 9] from rfl) (Reps.one (show Kd.M (Kd.int .u8) _ _ _ 13 [.int .u8 13] from rfl) (Reps.one (show Kd.M (Kd.int .u8) _ _ _ 14 [.int .u8 14] from rfl) (Reps.one (show Kd.M (Kd.int .u8) _ _ _ 15 [.int .u8 15] from rfl) (Reps.one (show Kd.M (Kd.int .u8) _ _ _ 16 [.int .u8 16] from rfl) (Reps.one (show Kd.M (Kd.int .u8) _ _ _ 17 [.int .u8 17] from rfl) (Reps.one (show Kd.M (Kd.int .u8) _ _ _ 18 [.int .u8 18] from rfl) (Reps.one (show Kd.M (Kd.int .u8) _ _ _ 19 [.int .u8 19] from rfl) (Reps.one (show Kd.M (Kd.int .u8) _ _ _ 20 [.int .u8 20] from rfl) (Reps.one (show Kd.M (Kd.int .u8) _ _ _ 21 [.int .u8 21] from rfl) (Reps.one (show Kd.M (Kd.int .u8) _ _ _ 22 [.int .u8 22] from rfl) (Reps.one (show Kd.M (Kd.int .u8) _ _ _ 23 [.int .u8 23] from rfl) (Reps.one (show Kd.M (Kd.int .u8) _ _ _ 24 [.int .u8 24] from rfl) (Reps.one (show Kd.M (Kd.int .u8) _ _ _ 25 [.int .u8 25] from rfl) (Reps.one (show Kd.M (Kd.int .u8) _ _ _ 26 [.int .u8 26] from rfl) (Reps.one (show Kd.M (Kd.int .u8) _ _ _ 27 [.int .u8 27] from rfl) (Reps.one (show Kd.M (Kd.int .u8) _ _ _ 11 [.int .u8 11] from rfl) (Reps.one (show Kd.M (Kd.int .u8) _ _ _ 10 [.int .u8 10] from rfl) (Reps.one (show Kd.M (Kd.int .u8) _ _ _ 0 [.int .u8 0] from rfl) (Reps.one (show Kd.M (Kd.int .u8) _ _ _ 2 [.int .u8 2] from rfl) (Reps.one (show Kd.M (Kd.int .u8) _ _ _ 4 [.int .u8 4] from rfl) (Reps.one (show Kd.M (Kd.int .u8) _ _ _ 5 [.int .u8 5] from rfl) (Reps.one (show Kd.M (Kd.int .u8) _ _ _ 6 [.int .u8 6] from rfl) (Reps.one (show Kd.M (Kd.int .u8) _ _ _ 7 [.int .u8 7] from rfl) (Reps.one (show Kd.M (Kd.int .u8) _ _ _ 8 [.int .u8 8] from rfl) (Reps.one (show Kd.M (Kd.int .u8) _ _ _ 13 [.int .u8 13] from rfl) (Reps.one (show Kd.M (Kd.int .u8) _ _ _ 14 [.int .u8 14] from rfl) (Reps.one (show Kd.M (Kd.int .u8) _ _ _ 9 [.int .u8 9] from rfl) (Reps.one (show Kd.M (Kd.int .u8) _ _ _ 8 [.int .u8 8] from rfl) (Reps.none _ _)))))))))))))))))))))))))))))))))))))); intro v103 w23 ho24 hb hg_ hnew_; clear hg_ hnew_; (first | rw [← Ny102.out] at ho24 | (simp only [Int.reduceToNat] at ho24; rw [← Ny102.out] at ho24)); have n0_ := Aside0.mk (Kd.R_lower ho24 (below_size (by repeat (first | (with_reducible first | exact HB.out | apply below_alloc | apply pw_below_drewN | apply below_drew1 | refine below_set ?_ GE101.out) | exact HB.out)))); have n1_ := Aside0.mk (blk_below (g := gb101) (o := .cells #[.int .u8 0, .int .i64 0, .int .i64 0, .int .i64 0] 33 (0, 0)) (by (with_reducible repeat (first | refine blk_drewN ?_ _ | refine blk_drew ?_ | refine blk_alloc ?_ _)); exact BK101.out) hb); have n2_ := Aside0.mk (below_step (by repeat (first | (with_reducible first | exact HB.out | apply below_alloc | apply pw_below_drewN | apply below_drew1 | refine below_set ?_ GE101.out) | exact HB.out)) hb); clear BK101; clear HB; have HO104 := n0_; have BK101 := n1_; have HB := n2_; clear n0_ n1_ n2_; clear hb ho24; obtain ⟨Ao25, co25, eo25⟩ := Kd.R_slice HO104.out; subst eo25; have p105 : 0 ≤ ((ji6) : Int) := of_decide_eq_true (by first | (with_reducible assumption) | assumption); have q105 : (ji6) < (y102.length : Int) := of_decide_eq_true (by first | (with_reducible assumption) | assumption); obtain ⟨ad105, e105, hx105_0⟩ := Kd.at_int (Kd.R_reads' HO104.out).2.2 (ji6) p105 q105; cases e105; replace p105 := eq_true p105; replace q105 := eq_true q105))
 (try simp only [Act.put, sT_, sZ_, sS_])
 go_cut [50] (fun v50 wc => ∃ (kq : Nat) (x50_20 : Bool), v50 = .bool x50_20 ∧ Aside0 (interlocklaw02_Ins.j0 kq a1 a2 a3 (rd y102 (ji6)) (wrap64 (Int.tmod a1 4)) ((Int.tdiv a1 4) % 4) ((Int.tdiv a1 16) % 2) (rd y102 (ji6)) x50_20 = some (r1, r2, r3, r4)) ∧ Aside0 (kq ≤ k) ∧ Aside0 (wc.heap[gb101]? = some (.cells #[.int .u8 0, .int .i64 0, .int .i64 0, .int .i64 0] 33 (0, 0))) ∧ Aside0 (Below w.heap.size w wc))
 case first => (
 have H := HC21.out
 clear HC21
 by_cases c26 : (rd y102 (ji6)) = 3
 {
 rw [if_pos c26] at H
 have c26b0 : ((rd y102 (ji6)) == 3) = true := beq_iff_eq.mpr c26
 have c26b1 : ((rd y102 (ji6)) != 3) = false := bne_eq_false_iff_eq.mpr c26
 clear c26
 (first | rw [c26b0] | (simp only [i64_w, i32_w]; rw [c26b0]) | skip)
 have H' := Aside0.mk H
 clear H
 go_wp2
 go_meet
 case rel => exact ⟨_, (((rd y102 (ji6)) == 3)), (by first | rfl | (simp; done) | (simp only [← hji6] <;> (first | rfl | (simp; done))) | (simp [*]; done)), H', ⟨by first | omega | exact Nat.le_refl _⟩, ⟨by (with_reducible repeat (first | refine blk_drewN ?_ _ | refine blk_drew ?_ | refine blk_alloc ?_ _)); exact BK101.out⟩, ⟨by repeat (first | (with_reducible first | exact HB.out | apply below_alloc | apply pw_below_drewN | apply below_drew1 | refine below_set ?_ GE101.out) | exact HB.out)⟩⟩
 }
 {
 rw [if_neg c26] at H
 have c26b0 : ((rd y102 (ji6)) == 3) = false := beq_eq_false_iff_ne.mpr c26
 have c26b1 : ((rd y102 (ji6)) != 3) = true := bne_iff_ne.mpr c26
 (first | rw [c26b0] | (simp only [i64_w, i32_w]; rw [c26b0]) | skip)
 by_cases c27 : (rd y102 (ji6)) = 4
 {
 rw [if_pos c27] at H
 have c27b0 : ((rd y102 (ji6)) == 4) = true := beq_iff_eq.mpr c27
 have c27b1 : ((rd y102 (ji6)) != 4) = false := bne_eq_false_iff_eq.mpr c27
 clear c27
 have H' := Aside0.mk H
 clear H
 go_wp2
 go_meet
 case rel => exact ⟨_, (((rd y102 (ji6)) == 4)), (by first | rfl | (simp; done) | (simp only [← hji6] <;> (first | rfl | (simp; done))) | (simp [*]; done)), H', ⟨by first | omega | exact Nat.le_refl _⟩, ⟨by (with_reducible repeat (first | refine blk_drewN ?_ _ | refine blk_drew ?_ | refine blk_alloc ?_ _)); exact BK101.out⟩, ⟨by repeat (first | (with_reducible first | exact HB.out | apply below_alloc | apply pw_below_drewN | apply below_drew1 | refine below_set ?_ GE101.out) | exact HB.out)⟩⟩
 }
 {
 rw [if_neg c27] at H
 have c27b0 : ((rd y102 (ji6)) == 4) = false := beq_eq_false_iff_ne.mpr c27
 have c27b1 : ((rd y102 (ji6)) != 4) = true := bne_iff_ne.mpr c27
 by_cases c28 : (rd y102 (ji6)) = 5
 {
 rw [if_pos c28] at H
 have c28b0 : ((rd y102 (ji6)) == 5) = true := beq_iff_eq.mpr c28
 have c28b1 : ((rd y102 (ji6)) != 5) = false := bne_eq_false_iff_eq.mpr c28
 clear c28
 have H' := Aside0.mk H
 clear H
 go_wp2
 go_meet
 case rel => exact ⟨_, (((rd y102 (ji6)) == 5)), (by first | rfl | (simp; done) | (simp only [← hji6] <;> (first | rfl | (simp; done))) | (simp [*]; done)), H', ⟨by first | omega | exact Nat.le_refl _⟩, ⟨by (with_reducible repeat (first | refine blk_drewN ?_ _ | refine blk_drew ?_ | refine blk_alloc ?_ _)); exact BK101.out⟩, ⟨by repeat (first | (with_reducible first | exact HB.out | apply below_alloc | apply pw_below_drewN | apply below_drew1 | refine below_set ?_ GE101.out) | exact HB.out)⟩⟩
 }
 {
 rw [if_neg c28] at H
 have c28b0 : ((rd y102 (ji6)) == 5) = false := beq_eq_false_iff_ne.mpr c28
 have c28b1 : ((rd y102 (ji6)) != 5) = true := bne_iff_ne.mpr c28
 have H' := Aside0.mk H
 clear H
 go_wp2
 go_meet
 case rel => exact ⟨_, (((rd y102 (ji6)) == 6)), (by first | rfl | (simp; done) | (simp only [← hji6] <;> (first | rfl | (simp; done))) | (simp [*]; done)), H', ⟨by first | omega | exact Nat.le_refl _⟩, ⟨by (with_reducible repeat (first | refine blk_drewN ?_ _ | refine blk_drew ?_ | refine blk_alloc ?_ _)); exact BK101.out⟩, ⟨by repeat (first | (with_reducible first | exact HB.out | apply below_alloc | apply pw_below_drewN | apply below_drew1 | refine below_set ?_ GE101.out) | exact HB.out)⟩⟩
 }
 }
 }
 )
 case rest => (
 clear HC21
 try clear c1
 try clear p1
 try clear q1
 try clear hx1
 try clear c2
 try clear p2
 try clear c5
 try clear c5b0
 try clear c5b1
 try clear c5b2
 try clear p6
 try clear c7
 try clear c7b0
 try clear c8
 try clear c8b0
 try clear c9
 try clear c9b0
 try clear c9b1
 try clear p10
 try clear q10
 try clear hx10
 try clear c15
 try clear c15b0
 try clear c15b1
 try clear c16
 try clear c26
 try clear c26b0
 try clear c26b1
 try clear c27
 try clear c27b0
 try clear c27b1
 try clear c28
 try clear c28b0
 try clear c28b1
 try clear hcz14_0
 try clear hcz14_1
 try clear hcz14_2
 try clear hcz14_3
 try clear hcz20_0
 try clear hcz20_1
 try clear hcz20_2
 try clear hcz20_3
 try clear hfz14_0
 try clear hfz14_1
 try clear hfz14_2
 try clear hfz14_3
 try clear hfz20_0
 try clear hfz20_1
 try clear hfz20_2
 try clear hfz20_3
 try clear hx105_0
 try clear p105
 try clear q105
 obtain ⟨kq, x50_20, rfl, HA, HJ20, BK101, HB⟩ := hcut
 cases kq with
 | zero => exact absurd HA.out (by simp [interlocklaw02_Ins.j0])
 | succ kj20 => (
 have H := HA.out
 clear HA
 simp only [interlocklaw02_Ins.j0] at H
 by_cases c29 : x50_20 = true
 {
 subst c29
 have H1 : (some ((rd y102 (ji6)), (wrap64 (Int.tmod a1 4)), ((Int.tdiv a1 4) % 4), (Int.tdiv a1 16) % 4)) = some (r1, r2, r3, r4) := by rw [if_pos rfl] at H; exact H
 clear H
 have H := H1
 clear H1
 simp only [Option.some.injEq, Prod.mk.injEq] at H
 obtain ⟨rfl, rfl, rfl, rfl⟩ := H
 have hcz30_0 : wc.cell? ⟨gb101, 0, none⟩ = some (.int .u8 0) := (blk_cell BK101.out 0).trans rfl
 have hcz30_1 : wc.cell? ⟨gb101, 1, none⟩ = some (.int .i64 0) := (blk_cell BK101.out 1).trans rfl
 have hcz30_2 : wc.cell? ⟨gb101, 2, none⟩ = some (.int .i64 0) := (blk_cell BK101.out 2).trans rfl
 have hcz30_3 : wc.cell? ⟨gb101, 3, none⟩ = some (.int .i64 0) := (blk_cell BK101.out 3).trans rfl
 have hfz30_0 := blk_frozen BK101.out 0
 have hfz30_1 := blk_frozen BK101.out 1
 have hfz30_2 := blk_frozen BK101.out 2
 have hfz30_3 := blk_frozen BK101.out 3
 go_wp2
 refine bodyPost_ret (results_cell_row rfl _ _ gb101 33 #[.int .u8 (rd y102 (ji6)), .int .i64 (wrap64 (Int.tmod a1 4)), .int .i64 ((Int.tdiv a1 4) % 4), .int .i64 ((Int.tdiv a1 16) % 4)] (0, 0) _ rfl (by (with_reducible repeat (first | refine blk_drewN ?_ _ | refine blk_drew ?_ | refine blk_alloc ?_ _)); refine blk_put (cs := #[.int .u8 (rd y102 (ji6)), .int .i64 (wrap64 (Int.tmod a1 4)), .int .i64 ((Int.tdiv a1 4) % 4), .int .i64 0]) ?_ 3 _ rfl; (with_reducible repeat (first | refine blk_drewN ?_ _ | refine blk_drew ?_ | refine blk_alloc ?_ _)); refine blk_put (cs := #[.int .u8 (rd y102 (ji6)), .int .i64 (wrap64 (Int.tmod a1 4)), .int .i64 0, .int .i64 0]) ?_ 2 _ rfl; (with_reducible repeat (first | refine blk_drewN ?_ _ | refine blk_drew ?_ | refine blk_alloc ?_ _)); refine blk_put (cs := #[.int .u8 (rd y102 (ji6)), .int .i64 0, .int .i64 0, .int .i64 0]) ?_ 1 _ rfl; (with_reducible repeat (first | refine blk_drewN ?_ _ | refine blk_drew ?_ | refine blk_alloc ?_ _)); refine blk_put (cs := #[.int .u8 0, .int .i64 0, .int .i64 0, .int .i64 0]) ?_ 0 _ rfl; (with_reducible repeat (first | refine blk_drewN ?_ _ | refine blk_drew ?_ | refine blk_alloc ?_ _)); exact BK101.out) Try.underlying33 rfl (by kernel_rfl)) rfl ?_
 exact ⟨by first | rfl | (simp [errW_none, errW_some] <;> rfl) | (simp only [← hji6]; first | rfl | (simp [errW_none, errW_some] <;> rfl)) | (simp [*, errW_none, errW_some] <;> rfl), by repeat (first | (with_reducible first | exact HB.out | apply below_alloc | apply pw_below_drewN | apply below_drew1 | refine below_set ?_ GE101.out) | exact HB.out)⟩
 }
 {
 replace c29 := Bool.eq_false_iff.mpr c29
 subst c29
 have H1 : (if (rd y102 (ji6)) = 7 then (some ((rd y102 (ji6)), (wrap64 (Int.tmod a1 4)), ((Int.tdiv a1 16) % 2), 0)) else (if (rd y102 (ji6)) = 8 then (some ((rd y102 (ji6)), ((Int.tdiv a1 16) % 2), (wrap64 (Int.tmod a1 4)), 0)) else (if (rd y102 (ji6)) = 9 then (some ((rd y102 (ji6)), (wrap64 (Int.tmod a1 4)), 0, 0)) else (if (rd y102 (ji6)) = 10 then (some ((rd y102 (ji6)), mn (wrap64 ((wrap64 (a2 + 1)) + ((Int.tdiv a1 4) % 4))) a3, 0, 0)) else (if (rd y102 (ji6)) = 11 then (if a1 ≥ 200 then (some ((rd y102 (ji6)), (wrap64 (Int.tmod a1 4)), mx (wrap64 (a2 - ((Int.tdiv a1 4) % 4))) 0, 0)) else (some ((rd y102 (ji6)), (wrap64 (Int.tmod a1 4)), mn (wrap64 ((wrap64 (a2 + 1)) + ((Int.tdiv a1 4) % 4))) a3, 0))) else (if (rd y102 (ji6)) = 18 then (some ((rd y102 (ji6)), 0, (wrap64 (Int.tmod a1 4)), 0)) else (if (rd y102 (ji6)) = 19 then (some ((rd y102 (ji6)), (wrap64 (Int.tmod a1 4)), 0, ((Int.tdiv a1 4) % 4))) else (if (rd y102 (ji6)) = 20 then (some ((rd y102 (ji6)), 0, (wrap64 (Int.tmod a1 4)), 0)) else (if (rd y102 (ji6)) = 17 then (interlocklaw02_Ins.j1 kj20 a1 (rd y102 (ji6)) (wrap64 (Int.tmod a1 4)) ((Int.tdiv a1 4) % 4) (rd y102 (ji6)) ((rd y102 (ji6)) == 17)) else (if (rd y102 (ji6)) = 21 then (interlocklaw02_Ins.j1 kj20 a1 (rd y102 (ji6)) (wrap64 (Int.tmod a1 4)) ((Int.tdiv a1 4) % 4) (rd y102 (ji6)) ((rd y102 (ji6)) == 21)) else (interlocklaw02_Ins.j1 kj20 a1 (rd y102 (ji6)) (wrap64 (Int.tmod a1 4)) ((Int.tdiv a1 4) % 4) (rd y102 (ji6)) ((rd y102 (ji6)) == 26)))))))))))) = some (r1, r2, r3, r4) := by rw [if_neg (show ¬ (false = true) by decide)] at H; exact H
 clear H
 have H := H1
 clear H1
 by_cases c31 : (rd y102 (ji6)) = 7
 {
 rw [if_pos c31] at H
 have c31b0 : ((rd y102 (ji6)) == 7) = true := beq_iff_eq.mpr c31
 have c31b1 : ((rd y102 (ji6)) != 7) = false := bne_eq_false_iff_eq.mpr c31
 clear c31
 simp only [Option.some.injEq, Prod.mk.injEq] at H
 obtain ⟨rfl, rfl, rfl, rfl⟩ := H
 have hcz32_0 : wc.cell? ⟨gb101, 0, none⟩ = some (.int .u8 0) := (blk_cell BK101.out 0).trans rfl
 have hcz32_1 : wc.cell? ⟨gb101, 1, none⟩ = some (.int .i64 0) := (blk_cell BK101.out 1).trans rfl
 have hcz32_2 : wc.cell? ⟨gb101, 2, none⟩ = some (.int .i64 0) := (blk_cell BK101.out 2).trans rfl
 have hcz32_3 : wc.cell? ⟨gb101, 3, none⟩ = some (.int .i64 0) := (blk_cell BK101.out 3).trans rfl
 have hfz32_0 := blk_frozen BK101.out 0
 have hfz32_1 := blk_frozen BK101.out 1
 have hfz32_2 := blk_frozen BK101.out 2
 have hfz32_3 := blk_frozen BK101.out 3
 go_wp2
 refine bodyPost_ret (results_cell_row rfl _ _ gb101 33 #[.int .u8 (rd y102 (ji6)), .int .i64 (wrap64 (Int.tmod a1 4)), .int .i64 ((Int.tdiv a1 16) % 2), .int .i64 0] (0, 0) _ rfl (by (with_reducible repeat (first | refine blk_drewN ?_ _ | refine blk_drew ?_ | refine blk_alloc ?_ _)); refine blk_put (cs := #[.int .u8 (rd y102 (ji6)), .int .i64 (wrap64 (Int.tmod a1 4)), .int .i64 ((Int.tdiv a1 16) % 2), .int .i64 0]) ?_ 3 _ rfl; (with_reducible repeat (first | refine blk_drewN ?_ _ | refine blk_drew ?_ | refine blk_alloc ?_ _)); refine blk_put (cs := #[.int .u8 (rd y102 (ji6)), .int .i64 (wrap64 (Int.tmod a1 4)), .int .i64 0, .int .i64 0]) ?_ 2 _ rfl; (with_reducible repeat (first | refine blk_drewN ?_ _ | refine blk_drew ?_ | refine blk_alloc ?_ _)); refine blk_put (cs := #[.int .u8 (rd y102 (ji6)), .int .i64 0, .int .i64 0, .int .i64 0]) ?_ 1 _ rfl; (with_reducible repeat (first | refine blk_drewN ?_ _ | refine blk_drew ?_ | refine blk_alloc ?_ _)); refine blk_put (cs := #[.int .u8 0, .int .i64 0, .int .i64 0, .int .i64 0]) ?_ 0 _ rfl; (with_reducible repeat (first | refine blk_drewN ?_ _ | refine blk_drew ?_ | refine blk_alloc ?_ _)); exact BK101.out) Try.underlying33 rfl (by kernel_rfl)) rfl ?_
 exact ⟨by first | rfl | (simp [errW_none, errW_some] <;> rfl) | (simp only [← hji6]; first | rfl | (simp [errW_none, errW_some] <;> rfl)) | (simp [*, errW_none, errW_some] <;> rfl), by repeat (first | (with_reducible first | exact HB.out | apply below_alloc | apply pw_below_drewN | apply below_drew1 | refine below_set ?_ GE101.out) | exact HB.out)⟩
 }
 {
 rw [if_neg c31] at H
 have c31b0 : ((rd y102 (ji6)) == 7) = false := beq_eq_false_iff_ne.mpr c31
 have c31b1 : ((rd y102 (ji6)) != 7) = true := bne_iff_ne.mpr c31
 by_cases c33 : (rd y102 (ji6)) = 8
 {
 rw [if_pos c33] at H
 have c33b0 : ((rd y102 (ji6)) == 8) = true := beq_iff_eq.mpr c33
 have c33b1 : ((rd y102 (ji6)) != 8) = false := bne_eq_false_iff_eq.mpr c33
 clear c33
 simp only [Option.some.injEq, Prod.mk.injEq] at H
 obtain ⟨rfl, rfl, rfl, rfl⟩ := H
 have hcz34_0 : wc.cell? ⟨gb101, 0, none⟩ = some (.int .u8 0) := (blk_cell BK101.out 0).trans rfl
 have hcz34_1 : wc.cell? ⟨gb101, 1, none⟩ = some (.int .i64 0) := (blk_cell BK101.out 1).trans rfl
 have hcz34_2 : wc.cell? ⟨gb101, 2, none⟩ = some (.int .i64 0) := (blk_cell BK101.out 2).trans rfl
 have hcz34_3 : wc.cell? ⟨gb101, 3, none⟩ = some (.int .i64 0) := (blk_cell BK101.out 3).trans rfl
 have hfz34_0 := blk_frozen BK101.out 0
 have hfz34_1 := blk_frozen BK101.out 1
 have hfz34_2 := blk_frozen BK101.out 2
 have hfz34_3 := blk_frozen BK101.out 3
 go_wp2
 refine bodyPost_ret (results_cell_row rfl _ _ gb101 33 #[.int .u8 (rd y102 (ji6)), .int .i64 ((Int.tdiv a1 16) % 2), .int .i64 (wrap64 (Int.tmod a1 4)), .int .i64 0] (0, 0) _ rfl (by (with_reducible repeat (first | refine blk_drewN ?_ _ | refine blk_drew ?_ | refine blk_alloc ?_ _)); refine blk_put (cs := #[.int .u8 (rd y102 (ji6)), .int .i64 ((Int.tdiv a1 16) % 2), .int .i64 (wrap64 (Int.tmod a1 4)), .int .i64 0]) ?_ 3 _ rfl; (with_reducible repeat (first | refine blk_drewN ?_ _ | refine blk_drew ?_ | refine blk_alloc ?_ _)); refine blk_put (cs := #[.int .u8 (rd y102 (ji6)), .int .i64 ((Int.tdiv a1 16) % 2), .int .i64 0, .int .i64 0]) ?_ 2 _ rfl; (with_reducible repeat (first | refine blk_drewN ?_ _ | refine blk_drew ?_ | refine blk_alloc ?_ _)); refine blk_put (cs := #[.int .u8 (rd y102 (ji6)), .int .i64 0, .int .i64 0, .int .i64 0]) ?_ 1 _ rfl; (with_reducible repeat (first | refine blk_drewN ?_ _ | refine blk_drew ?_ | refine blk_alloc ?_ _)); refine blk_put (cs := #[.int .u8 0, .int .i64 0, .int .i64 0, .int .i64 0]) ?_ 0 _ rfl; (with_reducible repeat (first | refine blk_drewN ?_ _ | refine blk_drew ?_ | refine blk_alloc ?_ _)); exact BK101.out) Try.underlying33 rfl (by kernel_rfl)) rfl ?_
 exact ⟨by first | rfl | (simp [errW_none, errW_some] <;> rfl) | (simp only [← hji6]; first | rfl | (simp [errW_none, errW_some] <;> rfl)) | (simp [*, errW_none, errW_some] <;> rfl), by repeat (first | (with_reducible first | exact HB.out | apply below_alloc | apply pw_below_drewN | apply below_drew1 | refine below_set ?_ GE101.out) | exact HB.out)⟩
 }
 {
 rw [if_neg c33] at H
 have c33b0 : ((rd y102 (ji6)) == 8) = false := beq_eq_false_iff_ne.mpr c33
 have c33b1 : ((rd y102 (ji6)) != 8) = true := bne_iff_ne.mpr c33
 by_cases c35 : (rd y102 (ji6)) = 9
 {
 rw [if_pos c35] at H
 have c35b0 : ((rd y102 (ji6)) == 9) = true := beq_iff_eq.mpr c35
 have c35b1 : ((rd y102 (ji6)) != 9) = false := bne_eq_false_iff_eq.mpr c35
 clear c35
 simp only [Option.some.injEq, Prod.mk.injEq] at H
 obtain ⟨rfl, rfl, rfl, rfl⟩ := H
 have hcz36_0 : wc.cell? ⟨gb101, 0, none⟩ = some (.int .u8 0) := (blk_cell BK101.out 0).trans rfl
 have hcz36_1 : wc.cell? ⟨gb101, 1, none⟩ = some (.int .i64 0) := (blk_cell BK101.out 1).trans rfl
 have hcz36_2 : wc.cell? ⟨gb101, 2, none⟩ = some (.int .i64 0) := (blk_cell BK101.out 2).trans rfl
 have hcz36_3 : wc.cell? ⟨gb101, 3, none⟩ = some (.int .i64 0) := (blk_cell BK101.out 3).trans rfl
 have hfz36_0 := blk_frozen BK101.out 0
 have hfz36_1 := blk_frozen BK101.out 1
 have hfz36_2 := blk_frozen BK101.out 2
 have hfz36_3 := blk_frozen BK101.out 3
 go_wp2
 refine bodyPost_ret (results_cell_row rfl _ _ gb101 33 #[.int .u8 (rd y102 (ji6)), .int .i64 (wrap64 (Int.tmod a1 4)), .int .i64 0, .int .i64 0] (0, 0) _ rfl (by (with_reducible repeat (first | refine blk_drewN ?_ _ | refine blk_drew ?_ | refine blk_alloc ?_ _)); refine blk_put (cs := #[.int .u8 (rd y102 (ji6)), .int .i64 (wrap64 (Int.tmod a1 4)), .int .i64 0, .int .i64 0]) ?_ 3 _ rfl; (with_reducible repeat (first | refine blk_drewN ?_ _ | refine blk_drew ?_ | refine blk_alloc ?_ _)); refine blk_put (cs := #[.int .u8 (rd y102 (ji6)), .int .i64 (wrap64 (Int.tmod a1 4)), .int .i64 0, .int .i64 0]) ?_ 2 _ rfl; (with_reducible repeat (first | refine blk_drewN ?_ _ | refine blk_drew ?_ | refine blk_alloc ?_ _)); refine blk_put (cs := #[.int .u8 (rd y102 (ji6)), .int .i64 0, .int .i64 0, .int .i64 0]) ?_ 1 _ rfl; (with_reducible repeat (first | refine blk_drewN ?_ _ | refine blk_drew ?_ | refine blk_alloc ?_ _)); refine blk_put (cs := #[.int .u8 0, .int .i64 0, .int .i64 0, .int .i64 0]) ?_ 0 _ rfl; (with_reducible repeat (first | refine blk_drewN ?_ _ | refine blk_drew ?_ | refine blk_alloc ?_ _)); exact BK101.out) Try.underlying33 rfl (by kernel_rfl)) rfl ?_
 exact ⟨by first | rfl | (simp [errW_none, errW_some] <;> rfl) | (simp only [← hji6]; first | rfl | (simp [errW_none, errW_some] <;> rfl)) | (simp [*, errW_none, errW_some] <;> rfl), by repeat (first | (with_reducible first | exact HB.out | apply below_alloc | apply pw_below_drewN | apply below_drew1 | refine below_set ?_ GE101.out) | exact HB.out)⟩
 }
 {
 rw [if_neg c35] at H
 have c35b0 : ((rd y102 (ji6)) == 9) = false := beq_eq_false_iff_ne.mpr c35
 have c35b1 : ((rd y102 (ji6)) != 9) = true := bne_iff_ne.mpr c35
 by_cases c37 : (rd y102 (ji6)) = 10
 {
 rw [if_pos c37] at H
 have c37b0 : ((rd y102 (ji6)) == 10) = true := beq_iff_eq.mpr c37
 have c37b1 : ((rd y102 (ji6)) != 10) = false := bne_eq_false_iff_eq.mpr c37
 clear c37
 obtain ⟨ji38, hji38⟩ : ∃ j_ : Int, (mn (wrap64 ((wrap64 (a2 + 1)) + ((Int.tdiv a1 4) % 4))) a3) = j_ := ⟨_, rfl⟩
 replace H : (some ((rd y102 (ji6)), ji38, 0, 0)) = some (r1, r2, r3, r4) := by first | (rw [hji38] at H; exact H) | (simp only [hji38] at H ⊢; exact H)
 have hji38q : mn (IntKind.i64.wrap ((IntKind.i64.wrap (a2 + 1)) + ((Int.tdiv a1 4) % 4))) a3 = ji38 := by first | (rw [i64_w]; exact hji38) | (simp only [i64_w]; exact hji38)
 have hji38_ : (if a3 < (wrap64 ((wrap64 (a2 + 1)) + ((Int.tdiv a1 4) % 4))) then a3 else (wrap64 ((wrap64 (a2 + 1)) + ((Int.tdiv a1 4) % 4)))) = ji38 := hji38
 simp only [Option.some.injEq, Prod.mk.injEq] at H
 obtain ⟨rfl, rfl, rfl, rfl⟩ := H
 have hcz39_0 : wc.cell? ⟨gb101, 0, none⟩ = some (.int .u8 0) := (blk_cell BK101.out 0).trans rfl
 have hcz39_1 : wc.cell? ⟨gb101, 1, none⟩ = some (.int .i64 0) := (blk_cell BK101.out 1).trans rfl
 have hcz39_2 : wc.cell? ⟨gb101, 2, none⟩ = some (.int .i64 0) := (blk_cell BK101.out 2).trans rfl
 have hcz39_3 : wc.cell? ⟨gb101, 3, none⟩ = some (.int .i64 0) := (blk_cell BK101.out 3).trans rfl
 have hfz39_0 := blk_frozen BK101.out 0
 have hfz39_1 := blk_frozen BK101.out 1
 have hfz39_2 := blk_frozen BK101.out 2
 have hfz39_3 := blk_frozen BK101.out 3
 go_wp2
 refine bodyPost_ret (results_cell_row rfl _ _ gb101 33 #[.int .u8 (rd y102 (ji6)), .int .i64 ji38, .int .i64 0, .int .i64 0] (0, 0) _ rfl (by (with_reducible repeat (first | refine blk_drewN ?_ _ | refine blk_drew ?_ | refine blk_alloc ?_ _)); refine blk_put (cs := #[.int .u8 (rd y102 (ji6)), .int .i64 ji38, .int .i64 0, .int .i64 0]) ?_ 3 _ rfl; (with_reducible repeat (first | refine blk_drewN ?_ _ | refine blk_drew ?_ | refine blk_alloc ?_ _)); refine blk_put (cs := #[.int .u8 (rd y102 (ji6)), .int .i64 ji38, .int .i64 0, .int .i64 0]) ?_ 2 _ rfl; (with_reducible repeat (first | refine blk_drewN ?_ _ | refine blk_drew ?_ | refine blk_alloc ?_ _)); refine blk_put (cs := #[.int .u8 (rd y102 (ji6)), .int .i64 0, .int .i64 0, .int .i64 0]) ?_ 1 _ rfl; (with_reducible repeat (first | refine blk_drewN ?_ _ | refine blk_drew ?_ | refine blk_alloc ?_ _)); refine blk_put (cs := #[.int .u8 0, .int .i64 0, .int .i64 0, .int .i64 0]) ?_ 0 _ rfl; (with_reducible repeat (first | refine blk_drewN ?_ _ | refine blk_drew ?_ | refine blk_alloc ?_ _)); exact BK101.out) Try.underlying33 rfl (by kernel_rfl)) rfl ?_
 exact ⟨by first | rfl | (simp [errW_none, errW_some] <;> rfl) | (simp only [← hji6, ← hji38]; first | rfl | (simp [errW_none, errW_some] <;> rfl)) | (simp [*, errW_none, errW_some] <;> rfl), by repeat (first | (with_reducible first | exact HB.out | apply below_alloc | apply pw_below_drewN | apply below_drew1 | refine below_set ?_ GE101.out) | exact HB.out)⟩
 }
 {
 rw [if_neg c37] at H
 have c37b0 : ((rd y102 (ji6)) == 10) = false := beq_eq_false_iff_ne.mpr c37
 have c37b1 : ((rd y102 (ji6)) != 10) = true := bne_iff_ne.mpr c37
 by_cases c40 : (rd y102 (ji6)) = 11
 {
 rw [if_pos c40] at H
 have c40b0 : ((rd y102 (ji6)) == 11) = true := beq_iff_eq.mpr c40
 have c40b1 : ((rd y102 (ji6)) != 11) = false := bne_eq_false_iff_eq.mpr c40
 clear c40
 by_cases c41 : a1 ≥ 200
 {
 rw [if_pos c41] at H
 have c41b0 : decide (200 ≤ a1) = true := decide_eq_true c41
 clear c41
 obtain ⟨ji42, hji42⟩ : ∃ j_ : Int, (mx (wrap64 (a2 - ((Int.tdiv a1 4) % 4))) 0) = j_ := ⟨_, rfl⟩
 replace H : (some ((rd y102 (ji6)), (wrap64 (Int.tmod a1 4)), ji42, 0)) = some (r1, r2, r3, r4) := by first | (rw [hji42] at H; exact H) | (simp only [hji42] at H ⊢; exact H)
 have hji42q : mx (IntKind.i64.wrap (a2 - ((Int.tdiv a1 4) % 4))) 0 = ji42 := by first | (rw [i64_w]; exact hji42) | (simp only [i64_w]; exact hji42)
 have hji42_ : (if (wrap64 (a2 - ((Int.tdiv a1 4) % 4))) < 0 then 0 else (wrap64 (a2 - ((Int.tdiv a1 4) % 4)))) = ji42 := hji42
 simp only [Option.some.injEq, Prod.mk.injEq] at H
 obtain ⟨rfl, rfl, rfl, rfl⟩ := H
 have hcz43_0 : wc.cell? ⟨gb101, 0, none⟩ = some (.int .u8 0) := (blk_cell BK101.out 0).trans rfl
 have hcz43_1 : wc.cell? ⟨gb101, 1, none⟩ = some (.int .i64 0) := (blk_cell BK101.out 1).trans rfl
 have hcz43_2 : wc.cell? ⟨gb101, 2, none⟩ = some (.int .i64 0) := (blk_cell BK101.out 2).trans rfl
 have hcz43_3 : wc.cell? ⟨gb101, 3, none⟩ = some (.int .i64 0) := (blk_cell BK101.out 3).trans rfl
 have hfz43_0 := blk_frozen BK101.out 0
 have hfz43_1 := blk_frozen BK101.out 1
 have hfz43_2 := blk_frozen BK101.out 2
 have hfz43_3 := blk_frozen BK101.out 3
 go_wp2
 refine bodyPost_ret (results_cell_row rfl _ _ gb101 33 #[.int .u8 (rd y102 (ji6)), .int .i64 (wrap64 (Int.tmod a1 4)), .int .i64 ji42, .int .i64 0] (0, 0) _ rfl (by (with_reducible repeat (first | refine blk_drewN ?_ _ | refine blk_drew ?_ | refine blk_alloc ?_ _)); refine blk_put (cs := #[.int .u8 (rd y102 (ji6)), .int .i64 (wrap64 (Int.tmod a1 4)), .int .i64 ji42, .int .i64 0]) ?_ 3 _ rfl; (with_reducible repeat (first | refine blk_drewN ?_ _ | refine blk_drew ?_ | refine blk_alloc ?_ _)); refine blk_put (cs := #[.int .u8 (rd y102 (ji6)), .int .i64 (wrap64 (Int.tmod a1 4)), .int .i64 0, .int .i64 0]) ?_ 2 _ rfl; (with_reducible repeat (first | refine blk_drewN ?_ _ | refine blk_drew ?_ | refine blk_alloc ?_ _)); refine blk_put (cs := #[.int .u8 (rd y102 (ji6)), .int .i64 0, .int .i64 0, .int .i64 0]) ?_ 1 _ rfl; (with_reducible repeat (first | refine blk_drewN ?_ _ | refine blk_drew ?_ | refine blk_alloc ?_ _)); refine blk_put (cs := #[.int .u8 0, .int .i64 0, .int .i64 0, .int .i64 0]) ?_ 0 _ rfl; (with_reducible repeat (first | refine blk_drewN ?_ _ | refine blk_drew ?_ | refine blk_alloc ?_ _)); exact BK101.out) Try.underlying33 rfl (by kernel_rfl)) rfl ?_
 exact ⟨by first | rfl | (simp [errW_none, errW_some] <;> rfl) | (simp only [← hji6, ← hji42]; first | rfl | (simp [errW_none, errW_some] <;> rfl)) | (simp [*, errW_none, errW_some] <;> rfl), by repeat (first | (with_reducible first | exact HB.out | apply below_alloc | apply pw_below_drewN | apply below_drew1 | refine below_set ?_ GE101.out) | exact HB.out)⟩
 }
 {
 rw [if_neg c41] at H
 have c41b0 : decide (200 ≤ a1) = false := decide_eq_false c41
 clear c41
 obtain ⟨ji44, hji44⟩ : ∃ j_ : Int, (mn (wrap64 ((wrap64 (a2 + 1)) + ((Int.tdiv a1 4) % 4))) a3) = j_ := ⟨_, rfl⟩
 replace H : (some ((rd y102 (ji6)), (wrap64 (Int.tmod a1 4)), ji44, 0)) = some (r1, r2, r3, r4) := by first | (rw [hji44] at H; exact H) | (simp only [hji44] at H ⊢; exact H)
 have hji44q : mn (IntKind.i64.wrap ((IntKind.i64.wrap (a2 + 1)) + ((Int.tdiv a1 4) % 4))) a3 = ji44 := by first | (rw [i64_w]; exact hji44) | (simp only [i64_w]; exact hji44)
 have hji44_ : (if a3 < (wrap64 ((wrap64 (a2 + 1)) + ((Int.tdiv a1 4) % 4))) then a3 else (wrap64 ((wrap64 (a2 + 1)) + ((Int.tdiv a1 4) % 4)))) = ji44 := hji44
 simp only [Option.some.injEq, Prod.mk.injEq] at H
 obtain ⟨rfl, rfl, rfl, rfl⟩ := H
 have hcz45_0 : wc.cell? ⟨gb101, 0, none⟩ = some (.int .u8 0) := (blk_cell BK101.out 0).trans rfl
 have hcz45_1 : wc.cell? ⟨gb101, 1, none⟩ = some (.int .i64 0) := (blk_cell BK101.out 1).trans rfl
 have hcz45_2 : wc.cell? ⟨gb101, 2, none⟩ = some (.int .i64 0) := (blk_cell BK101.out 2).trans rfl
 have hcz45_3 : wc.cell? ⟨gb101, 3, none⟩ = some (.int .i64 0) := (blk_cell BK101.out 3).trans rfl
 have hfz45_0 := blk_frozen BK101.out 0
 have hfz45_1 := blk_frozen BK101.out 1
 have hfz45_2 := blk_frozen BK101.out 2
 have hfz45_3 := blk_frozen BK101.out 3
 go_wp2
 refine bodyPost_ret (results_cell_row rfl _ _ gb101 33 #[.int .u8 (rd y102 (ji6)), .int .i64 (wrap64 (Int.tmod a1 4)), .int .i64 ji44, .int .i64 0] (0, 0) _ rfl (by (with_reducible repeat (first | refine blk_drewN ?_ _ | refine blk_drew ?_ | refine blk_alloc ?_ _)); refine blk_put (cs := #[.int .u8 (rd y102 (ji6)), .int .i64 (wrap64 (Int.tmod a1 4)), .int .i64 ji44, .int .i64 0]) ?_ 3 _ rfl; (with_reducible repeat (first | refine blk_drewN ?_ _ | refine blk_drew ?_ | refine blk_alloc ?_ _)); refine blk_put (cs := #[.int .u8 (rd y102 (ji6)), .int .i64 (wrap64 (Int.tmod a1 4)), .int .i64 0, .int .i64 0]) ?_ 2 _ rfl; (with_reducible repeat (first | refine blk_drewN ?_ _ | refine blk_drew ?_ | refine blk_alloc ?_ _)); refine blk_put (cs := #[.int .u8 (rd y102 (ji6)), .int .i64 0, .int .i64 0, .int .i64 0]) ?_ 1 _ rfl; (with_reducible repeat (first | refine blk_drewN ?_ _ | refine blk_drew ?_ | refine blk_alloc ?_ _)); refine blk_put (cs := #[.int .u8 0, .int .i64 0, .int .i64 0, .int .i64 0]) ?_ 0 _ rfl; (with_reducible repeat (first | refine blk_drewN ?_ _ | refine blk_drew ?_ | refine blk_alloc ?_ _)); exact BK101.out) Try.underlying33 rfl (by kernel_rfl)) rfl ?_
 exact ⟨by first | rfl | (simp [errW_none, errW_some] <;> rfl) | (simp only [← hji6, ← hji44]; first | rfl | (simp [errW_none, errW_some] <;> rfl)) | (simp [*, errW_none, errW_some] <;> rfl), by repeat (first | (with_reducible first | exact HB.out | apply below_alloc | apply pw_below_drewN | apply below_drew1 | refine below_set ?_ GE101.out) | exact HB.out)⟩
 }
 }
 {
 rw [if_neg c40] at H
 have c40b0 : ((rd y102 (ji6)) == 11) = false := beq_eq_false_iff_ne.mpr c40
 have c40b1 : ((rd y102 (ji6)) != 11) = true := bne_iff_ne.mpr c40
 by_cases c46 : (rd y102 (ji6)) = 18
 {
 rw [if_pos c46] at H
 have c46b0 : ((rd y102 (ji6)) == 18) = true := beq_iff_eq.mpr c46
 have c46b1 : ((rd y102 (ji6)) != 18) = false := bne_eq_false_iff_eq.mpr c46
 clear c46
 simp only [Option.some.injEq, Prod.mk.injEq] at H
 obtain ⟨rfl, rfl, rfl, rfl⟩ := H
 have hcz47_0 : wc.cell? ⟨gb101, 0, none⟩ = some (.int .u8 0) := (blk_cell BK101.out 0).trans rfl
 have hcz47_1 : wc.cell? ⟨gb101, 1, none⟩ = some (.int .i64 0) := (blk_cell BK101.out 1).trans rfl
 have hcz47_2 : wc.cell? ⟨gb101, 2, none⟩ = some (.int .i64 0) := (blk_cell BK101.out 2).trans rfl
 have hcz47_3 : wc.cell? ⟨gb101, 3, none⟩ = some (.int .i64 0) := (blk_cell BK101.out 3).trans rfl
 have hfz47_0 := blk_frozen BK101.out 0
 have hfz47_1 := blk_frozen BK101.out 1
 have hfz47_2 := blk_frozen BK101.out 2
 have hfz47_3 := blk_frozen BK101.out 3
 go_wp2
 refine bodyPost_ret (results_cell_row rfl _ _ gb101 33 #[.int .u8 (rd y102 (ji6)), .int .i64 0, .int .i64 (wrap64 (Int.tmod a1 4)), .int .i64 0] (0, 0) _ rfl (by (with_reducible repeat (first | refine blk_drewN ?_ _ | refine blk_drew ?_ | refine blk_alloc ?_ _)); refine blk_put (cs := #[.int .u8 (rd y102 (ji6)), .int .i64 0, .int .i64 (wrap64 (Int.tmod a1 4)), .int .i64 0]) ?_ 3 _ rfl; (with_reducible repeat (first | refine blk_drewN ?_ _ | refine blk_drew ?_ | refine blk_alloc ?_ _)); refine blk_put (cs := #[.int .u8 (rd y102 (ji6)), .int .i64 0, .int .i64 0, .int .i64 0]) ?_ 2 _ rfl; (with_reducible repeat (first | refine blk_drewN ?_ _ | refine blk_drew ?_ | refine blk_alloc ?_ _)); refine blk_put (cs := #[.int .u8 (rd y102 (ji6)), .int .i64 0, .int .i64 0, .int .i64 0]) ?_ 1 _ rfl; (with_reducible repeat (first | refine blk_drewN ?_ _ | refine blk_drew ?_ | refine blk_alloc ?_ _)); refine blk_put (cs := #[.int .u8 0, .int .i64 0, .int .i64 0, .int .i64 0]) ?_ 0 _ rfl; (with_reducible repeat (first | refine blk_drewN ?_ _ | refine blk_drew ?_ | refine blk_alloc ?_ _)); exact BK101.out) Try.underlying33 rfl (by kernel_rfl)) rfl ?_
 exact ⟨by first | rfl | (simp [errW_none, errW_some] <;> rfl) | (simp only [← hji6]; first | rfl | (simp [errW_none, errW_some] <;> rfl)) | (simp [*, errW_none, errW_some] <;> rfl), by repeat (first | (with_reducible first | exact HB.out | apply below_alloc | apply pw_below_drewN | apply below_drew1 | refine below_set ?_ GE101.out) | exact HB.out)⟩
 }
 {
 rw [if_neg c46] at H
 have c46b0 : ((rd y102 (ji6)) == 18) = false := beq_eq_false_iff_ne.mpr c46
 have c46b1 : ((rd y102 (ji6)) != 18) = true := bne_iff_ne.mpr c46
 by_cases c48 : (rd y102 (ji6)) = 19
 {
 rw [if_pos c48] at H
 have c48b0 : ((rd y102 (ji6)) == 19) = true := beq_iff_eq.mpr c48
 have c48b1 : ((rd y102 (ji6)) != 19) = false := bne_eq_false_iff_eq.mpr c48
 clear c48
 simp only [Option.some.injEq, Prod.mk.injEq] at H
 obtain ⟨rfl, rfl, rfl, rfl⟩ := H
 have hcz49_0 : wc.cell? ⟨gb101, 0, none⟩ = some (.int .u8 0) := (blk_cell BK101.out 0).trans rfl
 have hcz49_1 : wc.cell? ⟨gb101, 1, none⟩ = some (.int .i64 0) := (blk_cell BK101.out 1).trans rfl
 have hcz49_2 : wc.cell? ⟨gb101, 2, none⟩ = some (.int .i64 0) := (blk_cell BK101.out 2).trans rfl
 have hcz49_3 : wc.cell? ⟨gb101, 3, none⟩ = some (.int .i64 0) := (blk_cell BK101.out 3).trans rfl
 have hfz49_0 := blk_frozen BK101.out 0
 have hfz49_1 := blk_frozen BK101.out 1
 have hfz49_2 := blk_frozen BK101.out 2
 have hfz49_3 := blk_frozen BK101.out 3
 go_wp2
 refine bodyPost_ret (results_cell_row rfl _ _ gb101 33 #[.int .u8 (rd y102 (ji6)), .int .i64 (wrap64 (Int.tmod a1 4)), .int .i64 0, .int .i64 ((Int.tdiv a1 4) % 4)] (0, 0) _ rfl (by (with_reducible repeat (first | refine blk_drewN ?_ _ | refine blk_drew ?_ | refine blk_alloc ?_ _)); refine blk_put (cs := #[.int .u8 (rd y102 (ji6)), .int .i64 (wrap64 (Int.tmod a1 4)), .int .i64 0, .int .i64 0]) ?_ 3 _ rfl; (with_reducible repeat (first | refine blk_drewN ?_ _ | refine blk_drew ?_ | refine blk_alloc ?_ _)); refine blk_put (cs := #[.int .u8 (rd y102 (ji6)), .int .i64 (wrap64 (Int.tmod a1 4)), .int .i64 0, .int .i64 0]) ?_ 2 _ rfl; (with_reducible repeat (first | refine blk_drewN ?_ _ | refine blk_drew ?_ | refine blk_alloc ?_ _)); refine blk_put (cs := #[.int .u8 (rd y102 (ji6)), .int .i64 0, .int .i64 0, .int .i64 0]) ?_ 1 _ rfl; (with_reducible repeat (first | refine blk_drewN ?_ _ | refine blk_drew ?_ | refine blk_alloc ?_ _)); refine blk_put (cs := #[.int .u8 0, .int .i64 0, .int .i64 0, .int .i64 0]) ?_ 0 _ rfl; (with_reducible repeat (first | refine blk_drewN ?_ _ | refine blk_drew ?_ | refine blk_alloc ?_ _)); exact BK101.out) Try.underlying33 rfl (by kernel_rfl)) rfl ?_
 exact ⟨by first | rfl | (simp [errW_none, errW_some] <;> rfl) | (simp only [← hji6]; first | rfl | (simp [errW_none, errW_some] <;> rfl)) | (simp [*, errW_none, errW_some] <;> rfl), by repeat (first | (with_reducible first | exact HB.out | apply below_alloc | apply pw_below_drewN | apply below_drew1 | refine below_set ?_ GE101.out) | exact HB.out)⟩
 }
 {
 rw [if_neg c48] at H
 have c48b0 : ((rd y102 (ji6)) == 19) = false := beq_eq_false_iff_ne.mpr c48
 have c48b1 : ((rd y102 (ji6)) != 19) = true := bne_iff_ne.mpr c48
 by_cases c50 : (rd y102 (ji6)) = 20
 {
 rw [if_pos c50] at H
 have c50b0 : ((rd y102 (ji6)) == 20) = true := beq_iff_eq.mpr c50
 have c50b1 : ((rd y102 (ji6)) != 20) = false := bne_eq_false_iff_eq.mpr c50
 clear c50
 simp only [Option.some.injEq, Prod.mk.injEq] at H
 obtain ⟨rfl, rfl, rfl, rfl⟩ := H
 have hcz51_0 : wc.cell? ⟨gb101, 0, none⟩ = some (.int .u8 0) := (blk_cell BK101.out 0).trans rfl
 have hcz51_1 : wc.cell? ⟨gb101, 1, none⟩ = some (.int .i64 0) := (blk_cell BK101.out 1).trans rfl
 have hcz51_2 : wc.cell? ⟨gb101, 2, none⟩ = some (.int .i64 0) := (blk_cell BK101.out 2).trans rfl
 have hcz51_3 : wc.cell? ⟨gb101, 3, none⟩ = some (.int .i64 0) := (blk_cell BK101.out 3).trans rfl
 have hfz51_0 := blk_frozen BK101.out 0
 have hfz51_1 := blk_frozen BK101.out 1
 have hfz51_2 := blk_frozen BK101.out 2
 have hfz51_3 := blk_frozen BK101.out 3
 go_wp2
 refine bodyPost_ret (results_cell_row rfl _ _ gb101 33 #[.int .u8 (rd y102 (ji6)), .int .i64 0, .int .i64 (wrap64 (Int.tmod a1 4)), .int .i64 0] (0, 0) _ rfl (by (with_reducible repeat (first | refine blk_drewN ?_ _ | refine blk_drew ?_ | refine blk_alloc ?_ _)); refine blk_put (cs := #[.int .u8 (rd y102 (ji6)), .int .i64 0, .int .i64 (wrap64 (Int.tmod a1 4)), .int .i64 0]) ?_ 3 _ rfl; (with_reducible repeat (first | refine blk_drewN ?_ _ | refine blk_drew ?_ | refine blk_alloc ?_ _)); refine blk_put (cs := #[.int .u8 (rd y102 (ji6)), .int .i64 0, .int .i64 0, .int .i64 0]) ?_ 2 _ rfl; (with_reducible repeat (first | refine blk_drewN ?_ _ | refine blk_drew ?_ | refine blk_alloc ?_ _)); refine blk_put (cs := #[.int .u8 (rd y102 (ji6)), .int .i64 0, .int .i64 0, .int .i64 0]) ?_ 1 _ rfl; (with_reducible repeat (first | refine blk_drewN ?_ _ | refine blk_drew ?_ | refine blk_alloc ?_ _)); refine blk_put (cs := #[.int .u8 0, .int .i64 0, .int .i64 0, .int .i64 0]) ?_ 0 _ rfl; (with_reducible repeat (first | refine blk_drewN ?_ _ | refine blk_drew ?_ | refine blk_alloc ?_ _)); exact BK101.out) Try.underlying33 rfl (by kernel_rfl)) rfl ?_
 exact ⟨by first | rfl | (simp [errW_none, errW_some] <;> rfl) | (simp only [← hji6]; first | rfl | (simp [errW_none, errW_some] <;> rfl)) | (simp [*, errW_none, errW_some] <;> rfl), by repeat (first | (with_reducible first | exact HB.out | apply below_alloc | apply pw_below_drewN | apply below_drew1 | refine below_set ?_ GE101.out) | exact HB.out)⟩
 }
 {
 rw [if_neg c50] at H
 have c50b0 : ((rd y102 (ji6)) == 20) = false := beq_eq_false_iff_ne.mpr c50
 have c50b1 : ((rd y102 (ji6)) != 20) = true := bne_iff_ne.mpr c50
 have HC52 := Aside0.mk H
 clear H
 go_upto_if 126 with (fail)
 go_cut [126] (fun v126 wc => ∃ (kq : Nat) (x126_51 : Bool), v126 = .bool x126_51 ∧ Aside0 (interlocklaw02_Ins.j1 kq a1 (rd y102 (ji6)) (wrap64 (Int.tmod a1 4)) ((Int.tdiv a1 4) % 4) (rd y102 (ji6)) x126_51 = some (r1, r2, r3, r4)) ∧ Aside0 (kq ≤ kj20) ∧ Aside0 (wc.heap[gb101]? = some (.cells #[.int .u8 0, .int .i64 0, .int .i64 0, .int .i64 0] 33 (0, 0))) ∧ Aside0 (Below w.heap.size w wc))
 case first => (
 have H := HC52.out
 clear HC52
 by_cases c53 : (rd y102 (ji6)) = 17
 {
 rw [if_pos c53] at H
 have c53b0 : ((rd y102 (ji6)) == 17) = true := beq_iff_eq.mpr c53
 have c53b1 : ((rd y102 (ji6)) != 17) = false := bne_eq_false_iff_eq.mpr c53
 clear c53
 (first | rw [c53b0] | (simp only [i64_w, i32_w]; rw [c53b0]) | skip)
 have H' := Aside0.mk H
 clear H
 go_wp2
 go_meet
 case rel => exact ⟨_, (((rd y102 (ji6)) == 17)), (by first | rfl | (simp; done) | (simp only [← hji6] <;> (first | rfl | (simp; done))) | (simp [*]; done)), H', ⟨by have := HJ20.out; first | omega | exact Nat.le_refl _⟩, ⟨by (with_reducible repeat (first | refine blk_drewN ?_ _ | refine blk_drew ?_ | refine blk_alloc ?_ _)); exact BK101.out⟩, ⟨by repeat (first | (with_reducible first | exact HB.out | apply below_alloc | apply pw_below_drewN | apply below_drew1 | refine below_set ?_ GE101.out) | exact HB.out)⟩⟩
 }
 {
 rw [if_neg c53] at H
 have c53b0 : ((rd y102 (ji6)) == 17) = false := beq_eq_false_iff_ne.mpr c53
 have c53b1 : ((rd y102 (ji6)) != 17) = true := bne_iff_ne.mpr c53
 (first | rw [c53b0] | (simp only [i64_w, i32_w]; rw [c53b0]) | skip)
 by_cases c54 : (rd y102 (ji6)) = 21
 {
 rw [if_pos c54] at H
 have c54b0 : ((rd y102 (ji6)) == 21) = true := beq_iff_eq.mpr c54
 have c54b1 : ((rd y102 (ji6)) != 21) = false := bne_eq_false_iff_eq.mpr c54
 clear c54
 have H' := Aside0.mk H
 clear H
 go_wp2
 go_meet
 case rel => exact ⟨_, (((rd y102 (ji6)) == 21)), (by first | rfl | (simp; done) | (simp only [← hji6] <;> (first | rfl | (simp; done))) | (simp [*]; done)), H', ⟨by have := HJ20.out; first | omega | exact Nat.le_refl _⟩, ⟨by (with_reducible repeat (first | refine blk_drewN ?_ _ | refine blk_drew ?_ | refine blk_alloc ?_ _)); exact BK101.out⟩, ⟨by repeat (first | (with_reducible first | exact HB.out | apply below_alloc | apply pw_below_drewN | apply below_drew1 | refine below_set ?_ GE101.out) | exact HB.out)⟩⟩
 }
 {
 rw [if_neg c54] at H
 have c54b0 : ((rd y102 (ji6)) == 21) = false := beq_eq_false_iff_ne.mpr c54
 have c54b1 : ((rd y102 (ji6)) != 21) = true := bne_iff_ne.mpr c54
 have H' := Aside0.mk H
 clear H
 go_wp2
 go_meet
 case rel => exact ⟨_, (((rd y102 (ji6)) == 26)), (by first | rfl | (simp; done) | (simp only [← hji6] <;> (first | rfl | (simp; done))) | (simp [*]; done)), H', ⟨by have := HJ20.out; first | omega | exact Nat.le_refl _⟩, ⟨by (with_reducible repeat (first | refine blk_drewN ?_ _ | refine blk_drew ?_ | refine blk_alloc ?_ _)); exact BK101.out⟩, ⟨by repeat (first | (with_reducible first | exact HB.out | apply below_alloc | apply pw_below_drewN | apply below_drew1 | refine below_set ?_ GE101.out) | exact HB.out)⟩⟩
 }
 }
 )
 case rest => (
 clear HC52
 try clear c1
 try clear p1
 try clear q1
 try clear hx1
 try clear c2
 try clear p2
 try clear c3
 try clear c4
 try clear c5
 try clear c5b0
 try clear c5b1
 try clear c5b2
 try clear p6
 try clear c7
 try clear c7b0
 try clear c8
 try clear c8b0
 try clear c9
 try clear c9b0
 try clear c9b1
 try clear p10
 try clear q10
 try clear hx10
 try clear c15
 try clear c15b0
 try clear c15b1
 try clear c16
 try clear c26
 try clear c26b0
 try clear c26b1
 try clear c27
 try clear c27b0
 try clear c27b1
 try clear c28
 try clear c28b0
 try clear c28b1
 try clear c29
 try clear c31
 try clear c31b0
 try clear c31b1
 try clear c33
 try clear c33b0
 try clear c33b1
 try clear c35
 try clear c35b0
 try clear c35b1
 try clear c37
 try clear c37b0
 try clear c37b1
 try clear c40
 try clear c40b0
 try clear c40b1
 try clear c41
 try clear c41b0
 try clear c46
 try clear c46b0
 try clear c46b1
 try clear c48
 try clear c48b0
 try clear c48b1
 try clear c50
 try clear c50b0
 try clear c50b1
 try clear c53
 try clear c53b0
 try clear c53b1
 try clear c54
 try clear c54b0
 try clear c54b1
 try clear hcz14_0
 try clear hcz14_1
 try clear hcz14_2
 try clear hcz14_3
 try clear hcz20_0
 try clear hcz20_1
 try clear hcz20_2
 try clear hcz20_3
 try clear hcz30_0
 try clear hcz30_1
 try clear hcz30_2
 try clear hcz30_3
 try clear hcz32_0
 try clear hcz32_1
 try clear hcz32_2
 try clear hcz32_3
 try clear hcz34_0
 try clear hcz34_1
 try clear hcz34_2
 try clear hcz34_3
 try clear hcz36_0
 try clear hcz36_1
 try clear hcz36_2
 try clear hcz36_3
 try clear hcz39_0
 try clear hcz39_1
 try clear hcz39_2
 try clear hcz39_3
 try clear hcz43_0
 try clear hcz43_1
 try clear hcz43_2
 try clear hcz43_3
 try clear hcz45_0
 try clear hcz45_1
 try clear hcz45_2
 try clear hcz45_3
 try clear hcz47_0
 try clear hcz47_1
 try clear hcz47_2
 try clear hcz47_3
 try clear hcz49_0
 try clear hcz49_1
 try clear hcz49_2
 try clear hcz49_3
 try clear hcz51_0
 try clear hcz51_1
 try clear hcz51_2
 try clear hcz51_3
 try clear hfz14_0
 try clear hfz14_1
 try clear hfz14_2
 try clear hfz14_3
 try clear hfz20_0
 try clear hfz20_1
 try clear hfz20_2
 try clear hfz20_3
 try clear hfz30_0
 try clear hfz30_1
 try clear hfz30_2
 try clear hfz30_3
 try clear hfz32_0
 try clear hfz32_1
 try clear hfz32_2
 try clear hfz32_3
 try clear hfz34_0
 try clear hfz34_1
 try clear hfz34_2
 try clear hfz34_3
 try clear hfz36_0
 try clear hfz36_1
 try clear hfz36_2
 try clear hfz36_3
 try clear hfz39_0
 try clear hfz39_1
 try clear hfz39_2
 try clear hfz39_3
 try clear hfz43_0
 try clear hfz43_1
 try clear hfz43_2
 try clear hfz43_3
 try clear hfz45_0
 try clear hfz45_1
 try clear hfz45_2
 try clear hfz45_3
 try clear hfz47_0
 try clear hfz47_1
 try clear hfz47_2
 try clear hfz47_3
 try clear hfz49_0
 try clear hfz49_1
 try clear hfz49_2
 try clear hfz49_3
 try clear hfz51_0
 try clear hfz51_1
 try clear hfz51_2
 try clear hfz51_3
 try clear hx105_0
 try clear p1
 try clear p10
 try clear p105
 try clear p2
 try clear p6
 try clear q1
 try clear q10
 try clear q105
 obtain ⟨kq, x126_51, rfl, HA, HJ51, BK101, HB⟩ := hcut
 cases kq with
 | zero => exact absurd HA.out (by simp [interlocklaw02_Ins.j1])
 | succ kj51 => (
 have H := HA.out
 clear HA
 simp only [interlocklaw02_Ins.j1] at H
 by_cases c55 : x126_51 = true
 {
 subst c55
 have H1 : (some ((rd y102 (ji6)), (wrap64 (Int.tmod a1 4)), 0, 0)) = some (r1, r2, r3, r4) := by rw [if_pos rfl] at H; exact H
 clear H
 have H := H1
 clear H1
 simp only [Option.some.injEq, Prod.mk.injEq] at H
 obtain ⟨rfl, rfl, rfl, rfl⟩ := H
 have hcz56_0 : wc.cell? ⟨gb101, 0, none⟩ = some (.int .u8 0) := (blk_cell BK101.out 0).trans rfl
 have hcz56_1 : wc.cell? ⟨gb101, 1, none⟩ = some (.int .i64 0) := (blk_cell BK101.out 1).trans rfl
 have hcz56_2 : wc.cell? ⟨gb101, 2, none⟩ = some (.int .i64 0) := (blk_cell BK101.out 2).trans rfl
 have hcz56_3 : wc.cell? ⟨gb101, 3, none⟩ = some (.int .i64 0) := (blk_cell BK101.out 3).trans rfl
 have hfz56_0 := blk_frozen BK101.out 0
 have hfz56_1 := blk_frozen BK101.out 1
 have hfz56_2 := blk_frozen BK101.out 2
 have hfz56_3 := blk_frozen BK101.out 3
 go_wp2
 refine bodyPost_ret (results_cell_row rfl _ _ gb101 33 #[.int .u8 (rd y102 (ji6)), .int .i64 (wrap64 (Int.tmod a1 4)), .int .i64 0, .int .i64 0] (0, 0) _ rfl (by (with_reducible repeat (first | refine blk_drewN ?_ _ | refine blk_drew ?_ | refine blk_alloc ?_ _)); refine blk_put (cs := #[.int .u8 (rd y102 (ji6)), .int .i64 (wrap64 (Int.tmod a1 4)), .int .i64 0, .int .i64 0]) ?_ 3 _ rfl; (with_reducible repeat (first | refine blk_drewN ?_ _ | refine blk_drew ?_ | refine blk_alloc ?_ _)); refine blk_put (cs := #[.int .u8 (rd y102 (ji6)), .int .i64 (wrap64 (Int.tmod a1 4)), .int .i64 0, .int .i64 0]) ?_ 2 _ rfl; (with_reducible repeat (first | refine blk_drewN ?_ _ | refine blk_drew ?_ | refine blk_alloc ?_ _)); refine blk_put (cs := #[.int .u8 (rd y102 (ji6)), .int .i64 0, .int .i64 0, .int .i64 0]) ?_ 1 _ rfl; (with_reducible repeat (first | refine blk_drewN ?_ _ | refine blk_drew ?_ | refine blk_alloc ?_ _)); refine blk_put (cs := #[.int .u8 0, .int .i64 0, .int .i64 0, .int .i64 0]) ?_ 0 _ rfl; (with_reducible repeat (first | refine blk_drewN ?_ _ | refine blk_drew ?_ | refine blk_alloc ?_ _)); exact BK101.out) Try.underlying33 rfl (by kernel_rfl)) rfl ?_
 exact ⟨by first | rfl | (simp [errW_none, errW_some] <;> rfl) | (simp only [← hji6]; first | rfl | (simp [errW_none, errW_some] <;> rfl)) | (simp [*, errW_none, errW_some] <;> rfl), by repeat (first | (with_reducible first | exact HB.out | apply below_alloc | apply pw_below_drewN | apply below_drew1 | refine below_set ?_ GE101.out) | exact HB.out)⟩
 }
 {
 replace c55 := Bool.eq_false_iff.mpr c55
 subst c55
 have H1 : (if (rd y102 (ji6)) = 22 then (some ((rd y102 (ji6)), (wrap64 (Int.tmod a1 4)), 0, ((Int.tdiv a1 4) % 4))) else (if (rd y102 (ji6)) = 24 then (some ((rd y102 (ji6)), 0, wrap64 ((wrap64 (Int.tmod a1 3)) - 1), 0)) else (some ((rd y102 (ji6)), 0, 0, 0)))) = some (r1, r2, r3, r4) := by rw [if_neg (show ¬ (false = true) by decide)] at H; exact H
 clear H
 have H := H1
 clear H1
 by_cases c57 : (rd y102 (ji6)) = 22
 {
 rw [if_pos c57] at H
 have c57b0 : ((rd y102 (ji6)) == 22) = true := beq_iff_eq.mpr c57
 have c57b1 : ((rd y102 (ji6)) != 22) = false := bne_eq_false_iff_eq.mpr c57
 clear c57
 simp only [Option.some.injEq, Prod.mk.injEq] at H
 obtain ⟨rfl, rfl, rfl, rfl⟩ := H
 have hcz58_0 : wc.cell? ⟨gb101, 0, none⟩ = some (.int .u8 0) := (blk_cell BK101.out 0).trans rfl
 have hcz58_1 : wc.cell? ⟨gb101, 1, none⟩ = some (.int .i64 0) := (blk_cell BK101.out 1).trans rfl
 have hcz58_2 : wc.cell? ⟨gb101, 2, none⟩ = some (.int .i64 0) := (blk_cell BK101.out 2).trans rfl
 have hcz58_3 : wc.cell? ⟨gb101, 3, none⟩ = some (.int .i64 0) := (blk_cell BK101.out 3).trans rfl
 have hfz58_0 := blk_frozen BK101.out 0
 have hfz58_1 := blk_frozen BK101.out 1
 have hfz58_2 := blk_frozen BK101.out 2
 have hfz58_3 := blk_frozen BK101.out 3
 go_wp2
 refine bodyPost_ret (results_cell_row rfl _ _ gb101 33 #[.int .u8 (rd y102 (ji6)), .int .i64 (wrap64 (Int.tmod a1 4)), .int .i64 0, .int .i64 ((Int.tdiv a1 4) % 4)] (0, 0) _ rfl (by (with_reducible repeat (first | refine blk_drewN ?_ _ | refine blk_drew ?_ | refine blk_alloc ?_ _)); refine blk_put (cs := #[.int .u8 (rd y102 (ji6)), .int .i64 (wrap64 (Int.tmod a1 4)), .int .i64 0, .int .i64 0]) ?_ 3 _ rfl; (with_reducible repeat (first | refine blk_drewN ?_ _ | refine blk_drew ?_ | refine blk_alloc ?_ _)); refine blk_put (cs := #[.int .u8 (rd y102 (ji6)), .int .i64 (wrap64 (Int.tmod a1 4)), .int .i64 0, .int .i64 0]) ?_ 2 _ rfl; (with_reducible repeat (first | refine blk_drewN ?_ _ | refine blk_drew ?_ | refine blk_alloc ?_ _)); refine blk_put (cs := #[.int .u8 (rd y102 (ji6)), .int .i64 0, .int .i64 0, .int .i64 0]) ?_ 1 _ rfl; (with_reducible repeat (first | refine blk_drewN ?_ _ | refine blk_drew ?_ | refine blk_alloc ?_ _)); refine blk_put (cs := #[.int .u8 0, .int .i64 0, .int .i64 0, .int .i64 0]) ?_ 0 _ rfl; (with_reducible repeat (first | refine blk_drewN ?_ _ | refine blk_drew ?_ | refine blk_alloc ?_ _)); exact BK101.out) Try.underlying33 rfl (by kernel_rfl)) rfl ?_
 exact ⟨by first | rfl | (simp [errW_none, errW_some] <;> rfl) | (simp only [← hji6]; first | rfl | (simp [errW_none, errW_some] <;> rfl)) | (simp [*, errW_none, errW_some] <;> rfl), by repeat (first | (with_reducible first | exact HB.out | apply below_alloc | apply pw_below_drewN | apply below_drew1 | refine below_set ?_ GE101.out) | exact HB.out)⟩
 }
 {
 rw [if_neg c57] at H
 have c57b0 : ((rd y102 (ji6)) == 22) = false := beq_eq_false_iff_ne.mpr c57
 have c57b1 : ((rd y102 (ji6)) != 22) = true := bne_iff_ne.mpr c57
 by_cases c59 : (rd y102 (ji6)) = 24
 {
 rw [if_pos c59] at H
 have c59b0 : ((rd y102 (ji6)) == 24) = true := beq_iff_eq.mpr c59
 have c59b1 : ((rd y102 (ji6)) != 24) = false := bne_eq_false_iff_eq.mpr c59
 clear c59
 simp only [Option.some.injEq, Prod.mk.injEq] at H
 obtain ⟨rfl, rfl, rfl, rfl⟩ := H
 have hcz60_0 : wc.cell? ⟨gb101, 0, none⟩ = some (.int .u8 0) := (blk_cell BK101.out 0).trans rfl
 have hcz60_1 : wc.cell? ⟨gb101, 1, none⟩ = some (.int .i64 0) := (blk_cell BK101.out 1).trans rfl
 have hcz60_2 : wc.cell? ⟨gb101, 2, none⟩ = some (.int .i64 0) := (blk_cell BK101.out 2).trans rfl
 have hcz60_3 : wc.cell? ⟨gb101, 3, none⟩ = some (.int .i64 0) := (blk_cell BK101.out 3).trans rfl
 have hfz60_0 := blk_frozen BK101.out 0
 have hfz60_1 := blk_frozen BK101.out 1
 have hfz60_2 := blk_frozen BK101.out 2
 have hfz60_3 := blk_frozen BK101.out 3
 go_wp2
 refine bodyPost_ret (results_cell_row rfl _ _ gb101 33 #[.int .u8 (rd y102 (ji6)), .int .i64 0, .int .i64 (wrap64 ((wrap64 (Int.tmod a1 3)) - 1)), .int .i64 0] (0, 0) _ rfl (by (with_reducible repeat (first | refine blk_drewN ?_ _ | refine blk_drew ?_ | refine blk_alloc ?_ _)); refine blk_put (cs := #[.int .u8 (rd y102 (ji6)), .int .i64 0, .int .i64 (wrap64 ((wrap64 (Int.tmod a1 3)) - 1)), .int .i64 0]) ?_ 3 _ rfl; (with_reducible repeat (first | refine blk_drewN ?_ _ | refine blk_drew ?_ | refine blk_alloc ?_ _)); refine blk_put (cs := #[.int .u8 (rd y102 (ji6)), .int .i64 0, .int .i64 0, .int .i64 0]) ?_ 2 _ rfl; (with_reducible repeat (first | refine blk_drewN ?_ _ | refine blk_drew ?_ | refine blk_alloc ?_ _)); refine blk_put (cs := #[.int .u8 (rd y102 (ji6)), .int .i64 0, .int .i64 0, .int .i64 0]) ?_ 1 _ rfl; (with_reducible repeat (first | refine blk_drewN ?_ _ | refine blk_drew ?_ | refine blk_alloc ?_ _)); refine blk_put (cs := #[.int .u8 0, .int .i64 0, .int .i64 0, .int .i64 0]) ?_ 0 _ rfl; (with_reducible repeat (first | refine blk_drewN ?_ _ | refine blk_drew ?_ | refine blk_alloc ?_ _)); exact BK101.out) Try.underlying33 rfl (by kernel_rfl)) rfl ?_
 exact ⟨by first | rfl | (simp [errW_none, errW_some] <;> rfl) | (simp only [← hji6]; first | rfl | (simp [errW_none, errW_some] <;> rfl)) | (simp [*, errW_none, errW_some] <;> rfl), by repeat (first | (with_reducible first | exact HB.out | apply below_alloc | apply pw_below_drewN | apply below_drew1 | refine below_set ?_ GE101.out) | exact HB.out)⟩
 }
 {
 rw [if_neg c59] at H
 have c59b0 : ((rd y102 (ji6)) == 24) = false := beq_eq_false_iff_ne.mpr c59
 have c59b1 : ((rd y102 (ji6)) != 24) = true := bne_iff_ne.mpr c59
 simp only [Option.some.injEq, Prod.mk.injEq] at H
 obtain ⟨rfl, rfl, rfl, rfl⟩ := H
 have hcz61_0 : wc.cell? ⟨gb101, 0, none⟩ = some (.int .u8 0) := (blk_cell BK101.out 0).trans rfl
 have hcz61_1 : wc.cell? ⟨gb101, 1, none⟩ = some (.int .i64 0) := (blk_cell BK101.out 1).trans rfl
 have hcz61_2 : wc.cell? ⟨gb101, 2, none⟩ = some (.int .i64 0) := (blk_cell BK101.out 2).trans rfl
 have hcz61_3 : wc.cell? ⟨gb101, 3, none⟩ = some (.int .i64 0) := (blk_cell BK101.out 3).trans rfl
 have hfz61_0 := blk_frozen BK101.out 0
 have hfz61_1 := blk_frozen BK101.out 1
 have hfz61_2 := blk_frozen BK101.out 2
 have hfz61_3 := blk_frozen BK101.out 3
 go_wp2
 refine bodyPost_ret (results_cell_row rfl _ _ gb101 33 #[.int .u8 (rd y102 (ji6)), .int .i64 0, .int .i64 0, .int .i64 0] (0, 0) _ rfl (by (with_reducible repeat (first | refine blk_drewN ?_ _ | refine blk_drew ?_ | refine blk_alloc ?_ _)); refine blk_put (cs := #[.int .u8 (rd y102 (ji6)), .int .i64 0, .int .i64 0, .int .i64 0]) ?_ 3 _ rfl; (with_reducible repeat (first | refine blk_drewN ?_ _ | refine blk_drew ?_ | refine blk_alloc ?_ _)); refine blk_put (cs := #[.int .u8 (rd y102 (ji6)), .int .i64 0, .int .i64 0, .int .i64 0]) ?_ 2 _ rfl; (with_reducible repeat (first | refine blk_drewN ?_ _ | refine blk_drew ?_ | refine blk_alloc ?_ _)); refine blk_put (cs := #[.int .u8 (rd y102 (ji6)), .int .i64 0, .int .i64 0, .int .i64 0]) ?_ 1 _ rfl; (with_reducible repeat (first | refine blk_drewN ?_ _ | refine blk_drew ?_ | refine blk_alloc ?_ _)); refine blk_put (cs := #[.int .u8 0, .int .i64 0, .int .i64 0, .int .i64 0]) ?_ 0 _ rfl; (with_reducible repeat (first | refine blk_drewN ?_ _ | refine blk_drew ?_ | refine blk_alloc ?_ _)); exact BK101.out) Try.underlying33 rfl (by kernel_rfl)) rfl ?_
 exact ⟨by first | rfl | (simp [errW_none, errW_some] <;> rfl) | (simp only [← hji6]; first | rfl | (simp [errW_none, errW_some] <;> rfl)) | (simp [*, errW_none, errW_some] <;> rfl), by repeat (first | (with_reducible first | exact HB.out | apply below_alloc | apply pw_below_drewN | apply below_drew1 | refine below_set ?_ GE101.out) | exact HB.out)⟩
 }
 }
 }
 )
 )
 }
 }
 }
 }
 }
 }
 }
 }
 }
 )
 )
 }
 }
 }
 {
 rw [if_neg c8] at H
 exact absurd H (by simp)
 }
 }
 {
 rw [if_neg c7] at H
 exact absurd H (by simp)
 }
 }
end Go.Proofs.Yticdodbnjlnjlaa.P
