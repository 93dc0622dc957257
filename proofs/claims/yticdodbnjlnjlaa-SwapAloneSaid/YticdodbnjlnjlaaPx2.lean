-- written by this project's xprint.py (a turn of the kit's printer; its own texts among them)
import Derived.Test.YticdodbnjlnjlaaPx0
import Derived.Test.YticdodbnjlnjlaaV0
import Derived.Test.YticdodbnjlnjlaaPx1
namespace Go.Proofs.Yticdodbnjlnjlaa.P
open Go.RowKit Go.Proofs.YticdodbnjlnjlaaW.PrintWords Go.Proofs.YticdodbnjlnjlaaW.PrintLast Go.Proofs.YticdodbnjlnjlaaW.PrintMore
attribute [local go_sem] max2_int min2_int max_two min_two max_three min_three max_four min_four   -- for this text's walks alone
attribute [local irreducible] Calls
set_option linter.unusedVariables false
set_option linter.unusedSimpArgs false

/-! ### interlocklaw02_Make: function 8 -/
mutual
def interlocklaw02_Make.l0 : Nat → List (List Int) → Int → Int → Int → Int → Int → List Int → Int → Int → List (List (S33)) → Option (Int × Int × Int × List Int × Int × Int × (List (List (S33))))
  | 0, _, _, _, _, _, _, _, _, _, _ => none
  | k + 1, x0, x4, x5, x111000, x111001, x111002, x111003, x111004, x111005, x111006 => if x5 < x4 then (interlocklaw02_Make.l1 k x0 x4 x5 ([] : List (S33)) 1 x111000 x111001 x111002 x111003 x111004 x111005 x111006) else (some (x111000, x111001, x111002, x111003, x111004, x111005, x111006))
def interlocklaw02_Make.l1 : Nat → List (List Int) → Int → Int → List (S33) → Int → Int → Int → Int → List Int → Int → Int → List (List (S33)) → Option (Int × Int × Int × List Int × Int × Int × (List (List (S33))))
  | 0, _, _, _, _, _, _, _, _, _, _, _, _ => none
  | k + 1, x0, x4, x5, x6, x7, x111000, x111001, x111002, x111003, x111004, x111005, x111006 => if x7 < x4 then (if x5 = 0 then (if x6.length < 4398046511104 then (interlocklaw02_Make.l1 k x0 x4 x5 (x6 ++ [(⟨12, x7, 0, 0⟩ : S33)]) (wrap64 (x7 + 1)) x111000 x111001 x111002 x111003 x111004 x111005 x111006) else (none)) else (if x5 < (x0.length : Int) then (if 0 ≤ x5 then (interlocklaw02_Make.l2 k x0 x4 x5 x6 (x6.length : Int) (rd_L1 x0 x5) (mn (wrap64 (((rd_L1 x0 x5).length : Int) / 2)) 9) 0 x111000 x111001 x111002 x111003 x111004 x111005 x111006) else (none)) else (interlocklaw02_Make.l3 k x0 x4 x5 x6 0 0 x111000 x111001 x111002 x111003 x111004 x111005 x111006))) else (if x5 < (x0.length : Int) then (if 0 ≤ x5 then (interlocklaw02_Make.l4 k x0 x4 x5 x6 (x6.length : Int) (rd_L1 x0 x5) (mn (wrap64 (((rd_L1 x0 x5).length : Int) / 2)) 9) 0 x111000 x111001 x111002 x111003 x111004 x111005 x111006) else (none)) else (interlocklaw02_Make.l3 k x0 x4 x5 x6 0 0 x111000 x111001 x111002 x111003 x111004 x111005 x111006))
def interlocklaw02_Make.l2 : Nat → List (List Int) → Int → Int → List (S33) → Int → List Int → Int → Int → Int → Int → Int → List Int → Int → Int → List (List (S33)) → Option (Int × Int × Int × List Int × Int × Int × (List (List (S33))))
  | 0, _, _, _, _, _, _, _, _, _, _, _, _, _, _, _ => none
  | k + 1, x0, x4, x5, x6, x8, x9, x10, x11, x111000, x111001, x111002, x111003, x111004, x111005, x111006 => if x11 < x10 then (if 0 ≤ (wrap64 (2 * x11)) then (if (wrap64 (2 * x11)) < (x9.length : Int) then (if 0 ≤ (wrap64 ((wrap64 (2 * x11)) + 1)) then (if (wrap64 ((wrap64 (2 * x11)) + 1)) < (x9.length : Int) then ((interlocklaw02_Ins.f k (rd x9 (wrap64 (2 * x11))) (rd x9 (wrap64 ((wrap64 (2 * x11)) + 1))) (wrap64 (x8 + x11)) (wrap64 (x8 + x10))).bind fun bt117 => (if x6.length < 4398046511104 then (interlocklaw02_Make.l2 k x0 x4 x5 (x6 ++ [(⟨bt117.1, bt117.2.1, bt117.2.2.1, bt117.2.2.2⟩ : S33)]) x8 x9 x10 (wrap64 (x11 + 1)) x111000 x111001 x111002 x111003 x111004 x111005 x111006) else (none))) else (none)) else (none)) else (none)) else (none)) else (if x111006.length < 5864062014805 then (interlocklaw02_Make.l0 k x0 x4 (wrap64 (x5 + 1)) x111000 x111001 x111002 x111003 x111004 x111005 (x111006 ++ [x6])) else (none))
def interlocklaw02_Make.l3 : Nat → List (List Int) → Int → Int → List (S33) → Int → Int → Int → Int → Int → List Int → Int → Int → List (List (S33)) → Option (Int × Int × Int × List Int × Int × Int × (List (List (S33))))
  | 0, _, _, _, _, _, _, _, _, _, _, _, _, _ => none
  | k + 1, x0, x4, x5, x6, x10, x11, x111000, x111001, x111002, x111003, x111004, x111005, x111006 => if x11 < x10 then (if 0 ≤ (wrap64 (2 * x11)) then (if (wrap64 (2 * x11)) < 0 then (none) else (none)) else (none)) else (if x111006.length < 5864062014805 then (interlocklaw02_Make.l0 k x0 x4 (wrap64 (x5 + 1)) x111000 x111001 x111002 x111003 x111004 x111005 (x111006 ++ [x6])) else (none))
def interlocklaw02_Make.l4 : Nat → List (List Int) → Int → Int → List (S33) → Int → List Int → Int → Int → Int → Int → Int → List Int → Int → Int → List (List (S33)) → Option (Int × Int × Int × List Int × Int × Int × (List (List (S33))))
  | 0, _, _, _, _, _, _, _, _, _, _, _, _, _, _, _ => none
  | k + 1, x0, x4, x5, x6, x8, x9, x10, x11, x111000, x111001, x111002, x111003, x111004, x111005, x111006 => if x11 < x10 then (if 0 ≤ (wrap64 (2 * x11)) then (if (wrap64 (2 * x11)) < (x9.length : Int) then (if 0 ≤ (wrap64 ((wrap64 (2 * x11)) + 1)) then (if (wrap64 ((wrap64 (2 * x11)) + 1)) < (x9.length : Int) then ((interlocklaw02_Ins.f k (rd x9 (wrap64 (2 * x11))) (rd x9 (wrap64 ((wrap64 (2 * x11)) + 1))) (wrap64 (x8 + x11)) (wrap64 (x8 + x10))).bind fun bt133 => (if x6.length < 4398046511104 then (interlocklaw02_Make.l4 k x0 x4 x5 (x6 ++ [(⟨bt133.1, bt133.2.1, bt133.2.2.1, bt133.2.2.2⟩ : S33)]) x8 x9 x10 (wrap64 (x11 + 1)) x111000 x111001 x111002 x111003 x111004 x111005 x111006) else (none))) else (none)) else (none)) else (none)) else (none)) else (if x111006.length < 5864062014805 then (interlocklaw02_Make.l0 k x0 x4 (wrap64 (x5 + 1)) x111000 x111001 x111002 x111003 x111004 x111005 (x111006 ++ [x6])) else (none))
end
def interlocklaw02_Make.f (k : Nat) (l0 : List (List Int)) : Option (Int × Int × Int × List Int × Int × Int × (List (List (S33)))) := interlocklaw02_Make.l0 k l0 (mx (mn (l0.length : Int) 3) 1) 0 2 1 1 (([1] : List Int)) 1 1 ([] : List (List (S33)))
theorem interlocklaw02_Make.mono_l : ∀ k, (∀ y0 y1 y2 y3 y4 y5 y6 y7 y8 y9, LeO (interlocklaw02_Make.l0 k y0 y1 y2 y3 y4 y5 y6 y7 y8 y9) (interlocklaw02_Make.l0 (k + 1) y0 y1 y2 y3 y4 y5 y6 y7 y8 y9)) ∧ (∀ y0 y1 y2 y3 y4 y5 y6 y7 y8 y9 y10 y11, LeO (interlocklaw02_Make.l1 k y0 y1 y2 y3 y4 y5 y6 y7 y8 y9 y10 y11) (interlocklaw02_Make.l1 (k + 1) y0 y1 y2 y3 y4 y5 y6 y7 y8 y9 y10 y11)) ∧ (∀ y0 y1 y2 y3 y4 y5 y6 y7 y8 y9 y10 y11 y12 y13 y14, LeO (interlocklaw02_Make.l2 k y0 y1 y2 y3 y4 y5 y6 y7 y8 y9 y10 y11 y12 y13 y14) (interlocklaw02_Make.l2 (k + 1) y0 y1 y2 y3 y4 y5 y6 y7 y8 y9 y10 y11 y12 y13 y14)) ∧ (∀ y0 y1 y2 y3 y4 y5 y6 y7 y8 y9 y10 y11 y12, LeO (interlocklaw02_Make.l3 k y0 y1 y2 y3 y4 y5 y6 y7 y8 y9 y10 y11 y12) (interlocklaw02_Make.l3 (k + 1) y0 y1 y2 y3 y4 y5 y6 y7 y8 y9 y10 y11 y12)) ∧ (∀ y0 y1 y2 y3 y4 y5 y6 y7 y8 y9 y10 y11 y12 y13 y14, LeO (interlocklaw02_Make.l4 k y0 y1 y2 y3 y4 y5 y6 y7 y8 y9 y10 y11 y12 y13 y14) (interlocklaw02_Make.l4 (k + 1) y0 y1 y2 y3 y4 y5 y6 y7 y8 y9 y10 y11 y12 y13 y14))
  | 0 => ⟨fun _ _ _ _ _ _ _ _ _ _ r h => by simp [interlocklaw02_Make.l0] at h, fun _ _ _ _ _ _ _ _ _ _ _ _ r h => by simp [interlocklaw02_Make.l1] at h, fun _ _ _ _ _ _ _ _ _ _ _ _ _ _ _ r h => by simp [interlocklaw02_Make.l2] at h, fun _ _ _ _ _ _ _ _ _ _ _ _ _ r h => by simp [interlocklaw02_Make.l3] at h, fun _ _ _ _ _ _ _ _ _ _ _ _ _ _ _ r h => by simp [interlocklaw02_Make.l4] at h⟩
  | k + 1 => by
    obtain ⟨ih0, ih1, ih2, ih3, ih4⟩ := interlocklaw02_Make.mono_l k
    refine ⟨?_, ?_, ?_, ?_, ?_⟩
    · intro y0 y1 y2 y3 y4 y5 y6 y7 y8 y9
      unfold interlocklaw02_Make.l0
      repeat' first
      | (with_reducible exact ih0 _ _ _ _ _ _ _ _ _ _)
      | (with_reducible exact ih1 _ _ _ _ _ _ _ _ _ _ _ _)
      | (with_reducible exact ih2 _ _ _ _ _ _ _ _ _ _ _ _ _ _ _)
      | (with_reducible exact ih3 _ _ _ _ _ _ _ _ _ _ _ _ _)
      | (with_reducible exact ih4 _ _ _ _ _ _ _ _ _ _ _ _ _ _ _)
      | (with_reducible exact interlocklaw02_Ins.mono _ _ _ _ _)
      | (with_reducible exact LeO.refl _)
      | (with_reducible exact LeO.none _)
      | (with_reducible refine LeO.ite ?_ ?_)
      | (with_reducible refine LeO.bind ?_ (fun _ => ?_))
      | exact ih0 _ _ _ _ _ _ _ _ _ _
      | exact ih1 _ _ _ _ _ _ _ _ _ _ _ _
      | exact ih2 _ _ _ _ _ _ _ _ _ _ _ _ _ _ _
      | exact ih3 _ _ _ _ _ _ _ _ _ _ _ _ _
      | exact ih4 _ _ _ _ _ _ _ _ _ _ _ _ _ _ _
      | exact LeO.none _
      | refine LeO.ite ?_ ?_
      | refine LeO.bind ?_ (fun _ => ?_)
    · intro y0 y1 y2 y3 y4 y5 y6 y7 y8 y9 y10 y11
      unfold interlocklaw02_Make.l1
      repeat' first
      | (with_reducible exact ih0 _ _ _ _ _ _ _ _ _ _)
      | (with_reducible exact ih1 _ _ _ _ _ _ _ _ _ _ _ _)
      | (with_reducible exact ih2 _ _ _ _ _ _ _ _ _ _ _ _ _ _ _)
      | (with_reducible exact ih3 _ _ _ _ _ _ _ _ _ _ _ _ _)
      | (with_reducible exact ih4 _ _ _ _ _ _ _ _ _ _ _ _ _ _ _)
      | (with_reducible exact interlocklaw02_Ins.mono _ _ _ _ _)
      | (with_reducible exact LeO.refl _)
      | (with_reducible exact LeO.none _)
      | (with_reducible refine LeO.ite ?_ ?_)
      | (with_reducible refine LeO.bind ?_ (fun _ => ?_))
      | exact ih0 _ _ _ _ _ _ _ _ _ _
      | exact ih1 _ _ _ _ _ _ _ _ _ _ _ _
      | exact ih2 _ _ _ _ _ _ _ _ _ _ _ _ _ _ _
      | exact ih3 _ _ _ _ _ _ _ _ _ _ _ _ _
      | exact ih4 _ _ _ _ _ _ _ _ _ _ _ _ _ _ _
      | exact LeO.none _
      | refine LeO.ite ?_ ?_
      | refine LeO.bind ?_ (fun _ => ?_)
    · intro y0 y1 y2 y3 y4 y5 y6 y7 y8 y9 y10 y11 y12 y13 y14
      unfold interlocklaw02_Make.l2
      repeat' first
      | (with_reducible exact ih0 _ _ _ _ _ _ _ _ _ _)
      | (with_reducible exact ih1 _ _ _ _ _ _ _ _ _ _ _ _)
      | (with_reducible exact ih2 _ _ _ _ _ _ _ _ _ _ _ _ _ _ _)
      | (with_reducible exact ih3 _ _ _ _ _ _ _ _ _ _ _ _ _)
      | (with_reducible exact ih4 _ _ _ _ _ _ _ _ _ _ _ _ _ _ _)
      | (with_reducible exact interlocklaw02_Ins.mono _ _ _ _ _)
      | (with_reducible exact LeO.refl _)
      | (with_reducible exact LeO.none _)
      | (with_reducible refine LeO.ite ?_ ?_)
      | (with_reducible refine LeO.bind ?_ (fun _ => ?_))
      | exact ih0 _ _ _ _ _ _ _ _ _ _
      | exact ih1 _ _ _ _ _ _ _ _ _ _ _ _
      | exact ih2 _ _ _ _ _ _ _ _ _ _ _ _ _ _ _
      | exact ih3 _ _ _ _ _ _ _ _ _ _ _ _ _
      | exact ih4 _ _ _ _ _ _ _ _ _ _ _ _ _ _ _
      | exact LeO.none _
      | refine LeO.ite ?_ ?_
      | refine LeO.bind ?_ (fun _ => ?_)
    · intro y0 y1 y2 y3 y4 y5 y6 y7 y8 y9 y10 y11 y12
      unfold interlocklaw02_Make.l3
      repeat' first
      | (with_reducible exact ih0 _ _ _ _ _ _ _ _ _ _)
      | (with_reducible exact ih1 _ _ _ _ _ _ _ _ _ _ _ _)
      | (with_reducible exact ih2 _ _ _ _ _ _ _ _ _ _ _ _ _ _ _)
      | (with_reducible exact ih3 _ _ _ _ _ _ _ _ _ _ _ _ _)
      | (with_reducible exact ih4 _ _ _ _ _ _ _ _ _ _ _ _ _ _ _)
      | (with_reducible exact interlocklaw02_Ins.mono _ _ _ _ _)
      | (with_reducible exact LeO.refl _)
      | (with_reducible exact LeO.none _)
      | (with_reducible refine LeO.ite ?_ ?_)
      | (with_reducible refine LeO.bind ?_ (fun _ => ?_))
      | exact ih0 _ _ _ _ _ _ _ _ _ _
      | exact ih1 _ _ _ _ _ _ _ _ _ _ _ _
      | exact ih2 _ _ _ _ _ _ _ _ _ _ _ _ _ _ _
      | exact ih3 _ _ _ _ _ _ _ _ _ _ _ _ _
      | exact ih4 _ _ _ _ _ _ _ _ _ _ _ _ _ _ _
      | exact LeO.none _
      | refine LeO.ite ?_ ?_
      | refine LeO.bind ?_ (fun _ => ?_)
    · intro y0 y1 y2 y3 y4 y5 y6 y7 y8 y9 y10 y11 y12 y13 y14
      unfold interlocklaw02_Make.l4
      repeat' first
      | (with_reducible exact ih0 _ _ _ _ _ _ _ _ _ _)
      | (with_reducible exact ih1 _ _ _ _ _ _ _ _ _ _ _ _)
      | (with_reducible exact ih2 _ _ _ _ _ _ _ _ _ _ _ _ _ _ _)
      | (with_reducible exact ih3 _ _ _ _ _ _ _ _ _ _ _ _ _)
      | (with_reducible exact ih4 _ _ _ _ _ _ _ _ _ _ _ _ _ _ _)
      | (with_reducible exact interlocklaw02_Ins.mono _ _ _ _ _)
      | (with_reducible exact LeO.refl _)
      | (with_reducible exact LeO.none _)
      | (with_reducible refine LeO.ite ?_ ?_)
      | (with_reducible refine LeO.bind ?_ (fun _ => ?_))
      | exact ih0 _ _ _ _ _ _ _ _ _ _
      | exact ih1 _ _ _ _ _ _ _ _ _ _ _ _
      | exact ih2 _ _ _ _ _ _ _ _ _ _ _ _ _ _ _
      | exact ih3 _ _ _ _ _ _ _ _ _ _ _ _ _
      | exact ih4 _ _ _ _ _ _ _ _ _ _ _ _ _ _ _
      | exact LeO.none _
      | refine LeO.ite ?_ ?_
      | refine LeO.bind ?_ (fun _ => ?_)
theorem interlocklaw02_Make.mono : ∀ a0 k, LeO (interlocklaw02_Make.f k a0) (interlocklaw02_Make.f (k + 1) a0) := by
  intro a0 k
  obtain ⟨ih0, ih1, ih2, ih3, ih4⟩ := interlocklaw02_Make.mono_l k
  unfold interlocklaw02_Make.f
  repeat' first
      | (with_reducible exact ih0 _ _ _ _ _ _ _ _ _ _)
      | (with_reducible exact ih1 _ _ _ _ _ _ _ _ _ _ _ _)
      | (with_reducible exact ih2 _ _ _ _ _ _ _ _ _ _ _ _ _ _ _)
      | (with_reducible exact ih3 _ _ _ _ _ _ _ _ _ _ _ _ _)
      | (with_reducible exact ih4 _ _ _ _ _ _ _ _ _ _ _ _ _ _ _)
      | (with_reducible exact interlocklaw02_Ins.mono _ _ _ _ _)
      | (with_reducible exact LeO.refl _)
      | (with_reducible exact LeO.none _)
      | (with_reducible refine LeO.ite ?_ ?_)
      | (with_reducible refine LeO.bind ?_ (fun _ => ?_))
      | exact ih0 _ _ _ _ _ _ _ _ _ _
      | exact ih1 _ _ _ _ _ _ _ _ _ _ _ _
      | exact ih2 _ _ _ _ _ _ _ _ _ _ _ _ _ _ _
      | exact ih3 _ _ _ _ _ _ _ _ _ _ _ _ _
      | exact ih4 _ _ _ _ _ _ _ _ _ _ _ _ _ _ _
      | exact LeO.none _
      | refine LeO.ite ?_ ?_
      | refine LeO.bind ?_ (fun _ => ?_)
def interlocklaw02_Make.T19 : Bool × List (List Nat × List Nat) := (true, [([], []), ([], []), ([], []), ([2], [2]), ([1, 3], [1, 3]), ([4], [4]), ([], []), ([], []), ([7], [7]), ([8], [8]), ([6, 9], [6, 9]), ([10], [10]), ([], []), ([], []), ([12, 13], [12, 13]), ([], []), ([], []), ([15, 16], [15, 16]), ([5, 11, 14, 17], [5, 11, 14, 17]), ([18], [18]), ([0, 19, 18], [0, 19]), ([20, 20, 0, 1, 2, 3, 4, 5, 6, 7, 8, 9, 10, 11, 12, 13, 14, 15, 16, 17, 18, 19, 20], [0, 20])])
def interlocklaw02_Make.B19 : List Nat := [0, 0, 0, 4, 14, 30, 0, 0, 128, 384, 960, 1984, 0, 0, 12288, 0, 0, 98304, 262142, 524286, 1048575, 2097151]
theorem interlocklaw02_Make.tab19 : rtab .any (opsOf Try.f8 19) = interlocklaw02_Make.T19 := by kernel_rfl
theorem interlocklaw02_Make.bits19 : waitsOk interlocklaw02_Make.T19.2 interlocklaw02_Make.B19 = true := by kernel_rfl
set_option maxHeartbeats 8000000 in
set_option maxRecDepth 100000 in
theorem interlocklaw02_Make.calls (k : Nat) (A0 : Option Addr) (c0 : Nat) (l0 : List (List Int)) (r1 : Int) (r2 : Int) (r3 : Int) (r4 : List Int) (r5 : Int) (r6 : Int) (r7 : List (List (S33))) (w : World) (hr0 : Kd.C (Kd.slice 5 (Kd.int .u8)) w A0 l0.length l0) (hc0 : l0.length ≤ c0) (h : interlocklaw02_Make.f k l0 = some (r1, r2, r3, r4, r5, r6, r7)) :
    Calls Try.prog 8 #[.slice A0 l0.length c0] w fun e w' => ∃ v3_ v6_ : Value, e = .returned (.agg #[.int .i64 r1, .int .i64 r2, .int .i64 r3, v3_, .int .i64 r5, .int .i64 r6, v6_]) ∧ Kd.R (Kd.int .i64) 3 w' w.heap.size (fun _ => True) v3_ r4 ∧ Kd.S (Kd.slice 33 k33) 28 w' w.heap.size (fun _ => True) v6_ r7 ∧ Below w.heap.size w w' := by
 have hu26 := Try.underlying26
 have hu33 := Try.underlying33
 have HR0 := Aside0.mk hr0
 have HC0 := Aside0.mk hc0
 clear hr0 hc0
 have HB := Aside0.mk (Below.refl w.heap.size w)
 have H : (interlocklaw02_Make.l0 k l0 (mx (mn (l0.length : Int) 3) 1) 0 2 1 1 (([1] : List Int)) 1 1 ([] : List (List (S33)))) = some (r1, r2, r3, r4, r5, r6, r7) := h
 clear h
 obtain ⟨y107, hy107⟩ : ∃ y_ : List Int, y_ = (([1] : List Int)) := ⟨_, rfl⟩
 replace H : (interlocklaw02_Make.l0 k l0 (mx (mn (l0.length : Int) 3) 1) 0 2 1 1 y107 1 1 ([] : List (List (S33)))) = some (r1, r2, r3, r4, r5, r6, r7) := by first | (rw [hy107]; with_reducible exact H) | (have H2_ := (Option.bind_some _ _).symm.trans H; rw [hy107]; with_reducible exact H2_) | (have H2_ := (Option.bind_some _ _).symm.trans H; with_reducible exact H2_) | with_reducible exact H | (rw [hy107]; exact H) | exact H
 have Ny107 := Aside0.mk hy107
 clear hy107
 obtain ⟨ji2, hji2⟩ : ∃ j_ : Int, (mn (l0.length : Int) 3) = j_ := ⟨_, rfl⟩
 replace H : (interlocklaw02_Make.l0 k l0 (mx (ji2) 1) 0 2 1 1 y107 1 1 ([] : List (List (S33)))) = some (r1, r2, r3, r4, r5, r6, r7) := by first | (rw [hji2] at H; exact H) | (simp only [hji2] at H ⊢; exact H)
 (try (have hji2h : ji2 ≤ 3 := by (rw [← hji2]; unfold mn; (repeat' split) <;> omega)))
 (try (have hji2g : ji2 ≤ 64 := by omega))
 (try (have hji2l : 0 ≤ ji2 := by (rw [← hji2]; unfold mn; (repeat' split) <;> omega)))
 (try (have hji2m : 0 ≤ ji2 := by omega))
 have hji2_ : (if 3 < (l0.length : Int) then 3 else (l0.length : Int)) = ji2 := hji2
 obtain ⟨ji3, hji3⟩ : ∃ j_ : Int, (mx (ji2) 1) = j_ := ⟨_, rfl⟩
 replace H : (interlocklaw02_Make.l0 k l0 ji3 0 2 1 1 y107 1 1 ([] : List (List (S33)))) = some (r1, r2, r3, r4, r5, r6, r7) := by first | (rw [hji3] at H; exact H) | (simp only [hji3] at H ⊢; exact H)
 have hji3_ : (if (ji2) < 1 then 1 else (ji2)) = ji3 := hji3
 have H' := Aside0.mk H
 clear H
 go_enter Try.func8, Try.ntmps8
 go_wp2_with (first | ((with_reducible refine gate_dst (N := 2) rfl ?_); refine box_event ?hg (N := 2) ?hd (cs := #[.int .i64 0, .int .i64 0, .int .i64 0, .slice none 0 0, .int .i64 0, .int .i64 0, .slice none 0 0]) (t := 26) ?hr ?_; (case hd => rfl); (case hg => rfl); (case hr => first | (go_simp; done) | (go_simp; rfl)); intro gb106 hg w4 hbox hb; have n0_ := Aside0.mk (below_step (by repeat (first | (with_reducible first | exact HB.out | apply below_alloc | apply pw_below_drewN | apply below_drew1) | exact HB.out)) hb); have n1_ := Aside0.mk (hbox); have n2_ := Aside0.mk ((by rw [hg]; exact (below_size (by repeat (first | (with_reducible first | exact HB.out | apply below_alloc | apply pw_below_drewN | apply below_drew1) | exact HB.out))) : w.heap.size ≤ gb106)); have n3_ := Aside0.mk ((by rw [hg]; exact (below_size (by repeat (first | (with_reducible first | exact HB.out | apply below_alloc | apply pw_below_drewN | apply below_drew1) | exact HB.out))) : w.heap.size ≤ gb106)); clear HB; have HB := n0_; have BK106 := n1_; have GW106 := n2_; have GE106 := n3_; clear n0_ n1_ n2_ n3_; clear hb hbox hg) | ((with_reducible refine gate_dst (N := 12) rfl ?_); refine Kd.R_lit (Kd.int .i64) _ 3 ?hg (N := 12) ?hd (xs := ([1] : List Int)) (inner := [.int .i64 1]) (ok := fun _ => True) (okp := fun _ => True) ?hr ?hp (fun _ hk => hk) trivial (Below.refl _ _) (Nat.le_refl _) (by simp) ?_; (case hd => rfl); (case hg => rfl); (case hr => first | (go_simp; done) | (go_simp; rfl)); (case hp => exact (Reps.one (show Kd.M (Kd.int .i64) _ _ _ 1 [.int .i64 1] from rfl) (Reps.none _ _))); intro v108 w5 ho6 hb hg_ hnew_; clear hg_ hnew_; (first | rw [← Ny107.out] at ho6 | (simp only [Int.reduceToNat] at ho6; rw [← Ny107.out] at ho6)); have n0_ := Aside0.mk (Kd.R_lower ho6 (below_size (by repeat (first | (with_reducible first | exact HB.out | apply below_alloc | apply pw_below_drewN | apply below_drew1 | refine below_set ?_ GE106.out) | exact HB.out)))); have n1_ := Aside0.mk (blk_below (g := gb106) (o := .cells #[.int .i64 0, .int .i64 0, .int .i64 0, .slice none 0 0, .int .i64 0, .int .i64 0, .slice none 0 0] 26 (0, 0)) (by (with_reducible repeat (first | refine blk_drewN ?_ _ | refine blk_drew ?_ | refine blk_alloc ?_ _)); exact BK106.out) hb); have n2_ := Aside0.mk (below_step (by repeat (first | (with_reducible first | exact HB.out | apply below_alloc | apply pw_below_drewN | apply below_drew1 | refine below_set ?_ GE106.out) | exact HB.out)) hb); clear BK106; clear HB; have HO109 := n0_; have BK106 := n1_; have HB := n2_; clear n0_ n1_ n2_; clear hb ho6; obtain ⟨Ao7, co7, eo7⟩ := Kd.R_slice HO109.out; subst eo7) | ((with_reducible refine gate_dst (N := 3) rfl ?_); refine box_event ?hg (N := 3) ?hd (cs := #[.int .i64 0, .int .i64 0, .int .i64 0, .slice none 0 0, .int .i64 0, .int .i64 0, .slice none 0 0]) (t := 26) ?hr ?_; (case hd => rfl); (case hg => rfl); (case hr => first | (go_simp; done) | (go_simp; rfl)); intro gb110 hg w8 hbox hb; have n0_ := Aside0.mk (Kd.R_below (by (with_reducible repeat (first | apply Kd.R_alloc | apply Kd.R_drewN | apply Kd.R_drew)); exact HO109.out) hb); have n1_ := Aside0.mk (blk_below (g := gb106) (o := .cells #[.int .i64 0, .int .i64 0, .int .i64 0, .slice none 0 0, .int .i64 0, .int .i64 0, .slice none 0 0] 26 (0, 0)) (by (with_reducible repeat (first | refine blk_drewN ?_ _ | refine blk_drew ?_ | refine blk_alloc ?_ _)); exact BK106.out) hb); have n2_ := Aside0.mk (below_step (by repeat (first | (with_reducible first | exact HB.out | apply below_alloc | apply pw_below_drewN | apply below_drew1 | refine below_set ?_ GE106.out) | exact HB.out)) hb); have n3_ := Aside0.mk (hbox); have n4_ := Aside0.mk ((by rw [hg]; exact (below_size (by repeat (first | (with_reducible first | exact HB.out | apply below_alloc | apply pw_below_drewN | apply below_drew1 | refine below_set ?_ GE106.out) | exact HB.out))) : w.heap.size ≤ gb110)); have n5_ := Aside0.mk ((by rw [hg]; exact (below_size (by repeat (first | (with_reducible first | exact HB.out | apply below_alloc | apply pw_below_drewN | apply below_drew1 | refine below_set ?_ GE106.out) | exact HB.out))) : w.heap.size ≤ gb110)); have n6_ := Aside0.mk ((by rw [hg]; exact Nat.ne_of_lt (blk_lt (g := gb106) (o := .cells #[.int .i64 0, .int .i64 0, .int .i64 0, .slice none 0 0, .int .i64 0, .int .i64 0, .slice none 0 0] 26 (0, 0)) (by (with_reducible repeat (first | refine blk_drewN ?_ _ | refine blk_drew ?_ | refine blk_alloc ?_ _)); exact BK106.out)) : gb106 ≠ gb110)); have n7_ := Aside0.mk ((by rw [hg]; exact Nat.ne_of_gt (blk_lt (g := gb106) (o := .cells #[.int .i64 0, .int .i64 0, .int .i64 0, .slice none 0 0, .int .i64 0, .int .i64 0, .slice none 0 0] 26 (0, 0)) (by (with_reducible repeat (first | refine blk_drewN ?_ _ | refine blk_drew ?_ | refine blk_alloc ?_ _)); exact BK106.out)) : gb110 ≠ gb106)); clear HO109; clear BK106; clear HB; have HO109 := n0_; have BK106 := n1_; have HB := n2_; have BK110 := n3_; have GW110 := n4_; have GE110 := n5_; have NB106_110 := n6_; have NB110_106 := n7_; clear n0_ n1_ n2_ n3_ n4_ n5_ n6_ n7_; clear hb hbox hg; have hnb9 := NB110_106.out; have hnc9 := NB106_110.out; have hcz10_0 : w8.cell? ⟨gb110, 0, none⟩ = some (.int .i64 0) := (blk_cell BK110.out 0).trans rfl; have hcz10_1 : w8.cell? ⟨gb110, 1, none⟩ = some (.int .i64 0) := (blk_cell BK110.out 1).trans rfl; have hcz10_2 : w8.cell? ⟨gb110, 2, none⟩ = some (.int .i64 0) := (blk_cell BK110.out 2).trans rfl; have hcz10_3 : w8.cell? ⟨gb110, 3, none⟩ = some (.slice none 0 0) := (blk_cell BK110.out 3).trans rfl; have hcz10_4 : w8.cell? ⟨gb110, 4, none⟩ = some (.int .i64 0) := (blk_cell BK110.out 4).trans rfl; have hcz10_5 : w8.cell? ⟨gb110, 5, none⟩ = some (.int .i64 0) := (blk_cell BK110.out 5).trans rfl; have hcz10_6 : w8.cell? ⟨gb110, 6, none⟩ = some (.slice none 0 0) := (blk_cell BK110.out 6).trans rfl; have hfz10_0 := blk_frozen BK110.out 0; have hfz10_1 := blk_frozen BK110.out 1; have hfz10_2 := blk_frozen BK110.out 2; have hfz10_3 := blk_frozen BK110.out 3; have hfz10_4 := blk_frozen BK110.out 4; have hfz10_5 := blk_frozen BK110.out 5; have hfz10_6 := blk_frozen BK110.out 6))
 go_loopg [5] k (fun kq v5 w' => ∃ (x5_1 : Int) (x111006_1 : List (List (S33))) (u111006 : Value), v5 = .int .i64 x5_1 ∧ Aside0 (interlocklaw02_Make.l0 kq l0 ji3 x5_1 2 1 1 y107 1 1 x111006_1 = some (r1, r2, r3, r4, r5, r6, r7)) ∧ Aside0 (kq ≤ k) ∧ Aside0 (Kd.R (Kd.int .i64) 3 w' w.heap.size (fun _ => True) (.slice Ao7 y107.length co7) y107) ∧ Aside0 (Kd.S (Kd.slice 33 k33) 28 w' w.heap.size (fun _ => True) u111006 x111006_1) ∧ Aside0 (w'.heap[gb106]? = some (.cells #[.int .i64 0, .int .i64 0, .int .i64 0, (.slice none 0 0), .int .i64 0, .int .i64 0, (.slice none 0 0)] 26 (0, 0))) ∧ Aside0 (w'.heap[gb110]? = some (.cells #[.int .i64 2, .int .i64 1, .int .i64 1, (.slice Ao7 y107.length co7), .int .i64 1, .int .i64 1, u111006] 26 (0, 0))) ∧ Aside0 (Below w.heap.size w w'))
 case atStart => exact ⟨(0), (([] : List (List (S33)))), (.slice none 0 0), (by first | rfl | (simp; done) | (simp [*]; done)), H', ⟨Nat.le_refl _⟩, ⟨by (with_reducible repeat (first | apply Kd.R_alloc | apply Kd.R_drewN | apply Kd.R_drew)); exact Kd.R_mono (Kd.R_far (p := ⟨gb110, 6, none⟩) (Kd.R_far (p := ⟨gb110, 5, none⟩) (Kd.R_far (p := ⟨gb110, 4, none⟩) (Kd.R_far (p := ⟨gb110, 3, none⟩) (Kd.R_far (p := ⟨gb110, 2, none⟩) (Kd.R_far (p := ⟨gb110, 1, none⟩) (Kd.R_far (p := ⟨gb110, 0, none⟩) (Kd.R_types HO109.out BK110.out (by decide)) (fun _ hk => hk.2) (.int .i64 2)) (fun _ hk => hk.2) (.int .i64 1)) (fun _ hk => hk.2) (.int .i64 1)) (fun _ hk => hk.2) (.slice Ao7 y107.length co7)) (fun _ hk => hk.2) (.int .i64 1)) (fun _ hk => hk.2) (.int .i64 1)) (fun _ hk => hk.2) (.slice none 0 0)) (fun _ hk => trivial)⟩, ⟨by first | exact Kd.S_nil _ _ _ _ _ | exact Kd.N_nil _ _ _ _ _ | exact Kd.V_nil _ _ _ _ _ | exact Kd.Q_nil _ _ _ _ _ | exact Kd.R_nil _ _ _ _ _⟩, ⟨by (with_reducible repeat (first | refine blk_drewN ?_ _ | refine blk_drew ?_ | refine blk_alloc ?_ _)); refine blk_far ?_ NB106_110.out _; (with_reducible repeat (first | refine blk_drewN ?_ _ | refine blk_drew ?_ | refine blk_alloc ?_ _)); refine blk_far ?_ NB106_110.out _; (with_reducible repeat (first | refine blk_drewN ?_ _ | refine blk_drew ?_ | refine blk_alloc ?_ _)); refine blk_far ?_ NB106_110.out _; (with_reducible repeat (first | refine blk_drewN ?_ _ | refine blk_drew ?_ | refine blk_alloc ?_ _)); refine blk_far ?_ NB106_110.out _; (with_reducible repeat (first | refine blk_drewN ?_ _ | refine blk_drew ?_ | refine blk_alloc ?_ _)); refine blk_far ?_ NB106_110.out _; (with_reducible repeat (first | refine blk_drewN ?_ _ | refine blk_drew ?_ | refine blk_alloc ?_ _)); refine blk_far ?_ NB106_110.out _; (with_reducible repeat (first | refine blk_drewN ?_ _ | refine blk_drew ?_ | refine blk_alloc ?_ _)); refine blk_far ?_ NB106_110.out _; (with_reducible repeat (first | refine blk_drewN ?_ _ | refine blk_drew ?_ | refine blk_alloc ?_ _)); exact BK106.out⟩, ⟨by (with_reducible repeat (first | refine blk_drewN ?_ _ | refine blk_drew ?_ | refine blk_alloc ?_ _)); refine blk_put (cs := #[.int .i64 2, .int .i64 1, .int .i64 1, .slice Ao7 y107.length co7, .int .i64 1, .int .i64 1, .slice none 0 0]) ?_ 6 _ rfl; (with_reducible repeat (first | refine blk_drewN ?_ _ | refine blk_drew ?_ | refine blk_alloc ?_ _)); refine blk_put (cs := #[.int .i64 2, .int .i64 1, .int .i64 1, .slice Ao7 y107.length co7, .int .i64 1, .int .i64 0, .slice none 0 0]) ?_ 5 _ rfl; (with_reducible repeat (first | refine blk_drewN ?_ _ | refine blk_drew ?_ | refine blk_alloc ?_ _)); refine blk_put (cs := #[.int .i64 2, .int .i64 1, .int .i64 1, .slice Ao7 y107.length co7, .int .i64 0, .int .i64 0, .slice none 0 0]) ?_ 4 _ rfl; (with_reducible repeat (first | refine blk_drewN ?_ _ | refine blk_drew ?_ | refine blk_alloc ?_ _)); refine blk_put (cs := #[.int .i64 2, .int .i64 1, .int .i64 1, .slice none 0 0, .int .i64 0, .int .i64 0, .slice none 0 0]) ?_ 3 _ rfl; (with_reducible repeat (first | refine blk_drewN ?_ _ | refine blk_drew ?_ | refine blk_alloc ?_ _)); refine blk_put (cs := #[.int .i64 2, .int .i64 1, .int .i64 0, .slice none 0 0, .int .i64 0, .int .i64 0, .slice none 0 0]) ?_ 2 _ rfl; (with_reducible repeat (first | refine blk_drewN ?_ _ | refine blk_drew ?_ | refine blk_alloc ?_ _)); refine blk_put (cs := #[.int .i64 2, .int .i64 0, .int .i64 0, .slice none 0 0, .int .i64 0, .int .i64 0, .slice none 0 0]) ?_ 1 _ rfl; (with_reducible repeat (first | refine blk_drewN ?_ _ | refine blk_drew ?_ | refine blk_alloc ?_ _)); refine blk_put (cs := #[.int .i64 0, .int .i64 0, .int .i64 0, .slice none 0 0, .int .i64 0, .int .i64 0, .slice none 0 0]) ?_ 0 _ rfl; (with_reducible repeat (first | refine blk_drewN ?_ _ | refine blk_drew ?_ | refine blk_alloc ?_ _)); exact BK110.out⟩, ⟨by repeat (first | (with_reducible first | exact HB.out | apply below_alloc | apply pw_below_drewN | apply below_drew1 | refine below_set ?_ GE106.out | refine below_set ?_ GE110.out) | exact HB.out)⟩⟩
 case round => (
 clear H'
 try clear p2
 try clear c8
 try clear c9
 try clear hcz10_0
 try clear hcz10_1
 try clear hcz10_2
 try clear hcz10_3
 try clear hcz10_4
 try clear hcz10_5
 try clear hcz10_6
 try clear hfz10_0
 try clear hfz10_1
 try clear hfz10_2
 try clear hfz10_3
 try clear hfz10_4
 try clear hfz10_5
 try clear hfz10_6
 obtain ⟨x5_1, x111006_1, u111006, rfl, HA, HK1, HO_111003, HO_111006, BK106, BK110, HB⟩ := hrel
 cases gk with
 | zero => exact absurd HA.out (by simp [interlocklaw02_Make.l0])
 | succ k1 => (
 have H := HA.out
 clear HA
 simp only [interlocklaw02_Make.l0] at H
 by_cases c11 : x5_1 < ji3
 {
 rw [if_pos c11] at H
 have c11b0 : decide (x5_1 < ji3) = true := decide_eq_true c11
 clear c11
 have H' := Aside0.mk H
 clear H
 go_wp2
 go_loopg [6, 7] k1 (fun kq v6 v7 w' => ∃ (x6_2 : List (S33)) (x7_2 : Int), v7 = .int .i64 x7_2 ∧ Aside0 (interlocklaw02_Make.l1 kq l0 ji3 x5_1 x6_2 x7_2 2 1 1 y107 1 1 x111006_1 = some (r1, r2, r3, r4, r5, r6, r7)) ∧ Aside0 (kq ≤ k1) ∧ Aside0 (Kd.R k33 33 w' w.heap.size (fun _ => True) v6 x6_2) ∧ Aside0 (Kd.R (Kd.int .i64) 3 w' w.heap.size (fun _ => True) (.slice Ao7 y107.length co7) y107) ∧ Aside0 (Kd.S (Kd.slice 33 k33) 28 w' w.heap.size (fun k_ => some k_ ≠ (v6 : Value).ownBlock) u111006 x111006_1) ∧ Aside0 (w'.heap[gb106]? = some (.cells #[.int .i64 0, .int .i64 0, .int .i64 0, (.slice none 0 0), .int .i64 0, .int .i64 0, (.slice none 0 0)] 26 (0, 0))) ∧ Aside0 (w'.heap[gb110]? = some (.cells #[.int .i64 2, .int .i64 1, .int .i64 1, (.slice Ao7 y107.length co7), .int .i64 1, .int .i64 1, u111006] 26 (0, 0))) ∧ Aside0 (Below w.heap.size w w'))
 case atStart => exact ⟨(([] : List (S33))), (1), (by first | rfl | (simp; done) | (simp [*]; done)), H', ⟨Nat.le_refl _⟩, ⟨by first | exact Kd.R_nil _ _ _ _ _ | exact Kd.N_nil _ _ _ _ _ | exact Kd.V_nil _ _ _ _ _ | exact Kd.Q_nil _ _ _ _ _ | exact Kd.S_nil _ _ _ _ _⟩, ⟨by (with_reducible repeat (first | apply Kd.R_alloc | apply Kd.R_drewN | apply Kd.R_drew)); exact HO_111003.out⟩, ⟨by (with_reducible repeat (first | apply Kd.S_alloc | apply Kd.S_drewN | apply Kd.S_drew)); exact Kd.S_mono HO_111006.out (fun _ hk => (by simp [Value.ownBlock]))⟩, ⟨by (with_reducible repeat (first | refine blk_drewN ?_ _ | refine blk_drew ?_ | refine blk_alloc ?_ _)); exact BK106.out⟩, ⟨by (with_reducible repeat (first | refine blk_drewN ?_ _ | refine blk_drew ?_ | refine blk_alloc ?_ _)); exact BK110.out⟩, ⟨by repeat (first | (with_reducible first | exact HB.out | apply below_alloc | apply pw_below_drewN | apply below_drew1 | refine below_set ?_ GE106.out | refine below_set ?_ GE110.out) | exact HB.out)⟩⟩
 case round => (
 clear H'
 try clear c1
 try clear p2
 try clear c8
 try clear c9
 try clear c11
 try clear c11b0
 try clear hcz10_0
 try clear hcz10_1
 try clear hcz10_2
 try clear hcz10_3
 try clear hcz10_4
 try clear hcz10_5
 try clear hcz10_6
 try clear hfz10_0
 try clear hfz10_1
 try clear hfz10_2
 try clear hfz10_3
 try clear hfz10_4
 try clear hfz10_5
 try clear hfz10_6
 try clear p2
 obtain ⟨x6_2, x7_2, rfl, HA, HK2, HO_6, HO_111003, HO_111006, BK106, BK110, HB⟩ := hrel
 cases gk with
 | zero => exact absurd HA.out (by simp [interlocklaw02_Make.l1])
 | succ k2 => (
 have H := HA.out
 clear HA
 simp only [interlocklaw02_Make.l1] at H
 by_cases c12 : x7_2 < ji3
 {
 rw [if_pos c12] at H
 have c12b0 : decide (x7_2 < ji3) = true := decide_eq_true c12
 clear c12
 by_cases c13 : x5_1 = 0
 {
 rw [if_pos c13] at H
 have c13b0 : (x5_1 == 0) = true := beq_iff_eq.mpr c13
 have c13b1 : (x5_1 != 0) = false := bne_eq_false_iff_eq.mpr c13
 clear c13
 by_cases c14 : x6_2.length < 4398046511104
 {
 rw [if_pos c14] at H
 have LMc14 := Aside0.mk c14
 clear c14
 obtain ⟨y111, hy111⟩ : ∃ y_ : List (S33), y_ = (x6_2 ++ [(⟨12, x7_2, 0, 0⟩ : S33)]) := ⟨_, rfl⟩
 replace H : (interlocklaw02_Make.l1 k2 l0 ji3 x5_1 y111 (wrap64 (x7_2 + 1)) 2 1 1 y107 1 1 x111006_1) = some (r1, r2, r3, r4, r5, r6, r7) := by first | (rw [hy111]; with_reducible exact H) | (have H2_ := (Option.bind_some _ _).symm.trans H; rw [hy111]; with_reducible exact H2_) | (have H2_ := (Option.bind_some _ _).symm.trans H; with_reducible exact H2_) | with_reducible exact H | (rw [hy111]; exact H) | exact H
 have Ny111 := Aside0.mk hy111
 clear hy111
 have H' := Aside0.mk H
 clear H
 go_wp2_with (first | ((with_reducible refine gate_builtin (b := .append) (xs := #[.tmp 32, .tmp 35]) rfl ?_); at_builtin; refine Kd.R_append k33 (w0 := w) w.heap.size rfl (.tmp 32) (.tmp 35) 28 33 (.agg #[(.int .u8 0), (.int .i64 0), (.int .i64 0), (.int .i64 0)]) 32 rfl Try.underlying28 info33 rfl (by decide) (by omega) u6 x6_2 (⟨12, x7_2, 0, 0⟩ : S33) [.int .u8 12, .int .i64 x7_2, .int .i64 0, .int .i64 0] (fun _ => True) (fun _ => False) rfl rfl ?aP (fun _ hk => hk.elim) ?aF ?aO ?aB ?aS ?aL ?_; (case aP => exact k33_mkM _ _ _ (⟨12, x7_2, 0, 0⟩ : S33)); (case aB => exact (by repeat (first | (with_reducible first | exact HB.out | apply below_alloc | apply pw_below_drewN | apply below_drew1 | refine below_set ?_ GE106.out | refine below_set ?_ GE110.out) | exact HB.out))); (case aF => exact (fun _ _ => trivial)); (case aO => exact (by (with_reducible repeat (first | apply Kd.R_alloc | apply Kd.R_drewN | apply Kd.R_drew)); exact HO_6.out)); (case aS => exact (below_size (by repeat (first | (with_reducible first | exact HB.out | apply below_alloc | apply pw_below_drewN | apply below_drew1 | refine below_set ?_ GE106.out | refine below_set ?_ GE110.out) | exact HB.out)))); (case aL => have := LMc14.out; omega); intro v112 w15 ho hb hg hat; rw [← Ny111.out] at ho; have n0_ := Aside0.mk (Kd.R_over' (by (with_reducible repeat (first | apply Kd.R_alloc | apply Kd.R_drewN | apply Kd.R_drew)); exact HO_111003.out) (Kd.R_typed (by (with_reducible repeat (first | apply Kd.R_alloc | apply Kd.R_drewN | apply Kd.R_drew)); exact HO_6.out)) (by decide) hg); have n1_ := Aside0.mk (Kd.S_after (ok := (fun _ => True)) (by (with_reducible repeat (first | apply Kd.S_alloc | apply Kd.S_drewN | apply Kd.S_drew)); exact Kd.S_mono HO_111006.out (fun _ hk => ⟨trivial, hk⟩)) hg hat); have n2_ := Aside0.mk (blk_grown (g := gb106) (o := .cells #[.int .i64 0, .int .i64 0, .int .i64 0, .slice none 0 0, .int .i64 0, .int .i64 0, .slice none 0 0] 26 (0, 0)) (by (with_reducible repeat (first | refine blk_drewN ?_ _ | refine blk_drew ?_ | refine blk_alloc ?_ _)); exact BK106.out) hg (Kd.R_ne HO_6.out BK106.out (by decide))); have n3_ := Aside0.mk (blk_grown (g := gb110) (o := .cells #[.int .i64 2, .int .i64 1, .int .i64 1, .slice Ao7 y107.length co7, .int .i64 1, .int .i64 1, u111006] 26 (0, 0)) (by (with_reducible repeat (first | refine blk_drewN ?_ _ | refine blk_drew ?_ | refine blk_alloc ?_ _)); exact BK110.out) hg (Kd.R_ne HO_6.out BK110.out (by decide))); have n4_ := Aside0.mk (hb); have n5_ := Aside0.mk (ho); clear HO_111003; clear HO_111006; clear BK106; clear BK110; clear HB; clear HO_6; have HO_111003 := n0_; have HO_111006 := n1_; have BK106 := n2_; have BK110 := n3_; have HB := n4_; have HO113 := n5_; clear n0_ n1_ n2_ n3_ n4_ n5_; clear ho hb hg hat))
 go_roundg k2
 case measure => have := HK1.out; have := HK2.out; omega
 case rel => exact ⟨(y111), (wrap64 (x7_2 + 1)), (by first | rfl | (simp; done) | (simp [*]; done)), H', ⟨by have := HK1.out; have := HK2.out; omega⟩, ⟨by (with_reducible repeat (first | apply Kd.R_alloc | apply Kd.R_drewN | apply Kd.R_drew)); exact HO113.out⟩, ⟨by (with_reducible repeat (first | apply Kd.R_alloc | apply Kd.R_drewN | apply Kd.R_drew)); exact HO_111003.out⟩, ⟨by (with_reducible repeat (first | apply Kd.S_alloc | apply Kd.S_drewN | apply Kd.S_drew)); exact Kd.S_mono HO_111006.out (fun _ hk => hk.2)⟩, ⟨by (with_reducible repeat (first | refine blk_drewN ?_ _ | refine blk_drew ?_ | refine blk_alloc ?_ _)); exact BK106.out⟩, ⟨by (with_reducible repeat (first | refine blk_drewN ?_ _ | refine blk_drew ?_ | refine blk_alloc ?_ _)); exact BK110.out⟩, ⟨by repeat (first | (with_reducible first | exact HB.out | apply below_alloc | apply pw_below_drewN | apply below_drew1 | refine below_set ?_ GE106.out | refine below_set ?_ GE110.out) | exact HB.out)⟩⟩
 }
 {
 rw [if_neg c14] at H
 exact absurd H (by simp)
 }
 }
 {
 rw [if_neg c13] at H
 have c13b0 : (x5_1 == 0) = false := beq_eq_false_iff_ne.mpr c13
 have c13b1 : (x5_1 != 0) = true := bne_iff_ne.mpr c13
 by_cases c16 : x5_1 < (l0.length : Int)
 {
 rw [if_pos c16] at H
 have c16b0 : decide (x5_1 < (l0.length : Int)) = true := decide_eq_true c16
 clear c16
 by_cases c17 : 0 ≤ x5_1
 {
 rw [if_pos c17] at H
 have c17b0 : decide (0 ≤ x5_1) = true := decide_eq_true c17
 clear c17
 obtain ⟨ji18, hji18⟩ : ∃ j_ : Int, (mn (wrap64 (((rd_L1 l0 x5_1).length : Int) / 2)) 9) = j_ := ⟨_, rfl⟩
 replace H : (interlocklaw02_Make.l2 k2 l0 ji3 x5_1 x6_2 (x6_2.length : Int) (rd_L1 l0 x5_1) ji18 0 2 1 1 y107 1 1 x111006_1) = some (r1, r2, r3, r4, r5, r6, r7) := by first | (rw [hji18] at H; exact H) | (simp only [hji18] at H ⊢; exact H)
 have hji18q : mn (IntKind.i64.wrap (((rd_L1 l0 x5_1).length : Int) / 2)) 9 = ji18 := by first | (rw [i64_w]; exact hji18) | (simp only [i64_w]; exact hji18)
 have hji18_ : (if 9 < (wrap64 (((rd_L1 l0 x5_1).length : Int) / 2)) then 9 else (wrap64 (((rd_L1 l0 x5_1).length : Int) / 2))) = ji18 := hji18
 have H' := Aside0.mk H
 clear H
 obtain ⟨Ao19, co19, eo19⟩ := Kd.R_slice HO_6.out
 subst eo19
 have p114 : 0 ≤ (x5_1 : Int) := of_decide_eq_true (by first | (with_reducible assumption) | assumption)
 have q114 : x5_1 < (l0.length : Int) := of_decide_eq_true (by first | (with_reducible assumption) | assumption)
 obtain ⟨ad114, A114_0, c114_0, e114, hx114_0, hl114_0, hi114_0⟩ := at_L1 HR0.out x5_1 p114 q114
 cases e114
 replace hx114_0 := (HB.out.cell (World.block_lt_of_cell? w _ hx114_0)).trans hx114_0
 have HR114_0 := Aside0.mk hi114_0
 have HC114_0 := Aside0.mk hl114_0
 clear hi114_0 hl114_0
 replace p114 := eq_true p114
 replace q114 := eq_true q114
 go_wp2
 go_loopg [6, 11] k2 (fun kq v6 v11 w' => ∃ (x6_3 : List (S33)) (x11_3 : Int), v11 = .int .i64 x11_3 ∧ Aside0 (interlocklaw02_Make.l2 kq l0 ji3 x5_1 x6_3 (x6_2.length : Int) (rd_L1 l0 x5_1) ji18 x11_3 2 1 1 y107 1 1 x111006_1 = some (r1, r2, r3, r4, r5, r6, r7)) ∧ Aside0 (kq ≤ k2) ∧ Aside0 (Kd.R k33 33 w' w.heap.size (fun _ => True) v6 x6_3) ∧ Aside0 (Kd.R (Kd.int .i64) 3 w' w.heap.size (fun _ => True) (.slice Ao7 y107.length co7) y107) ∧ Aside0 (Kd.S (Kd.slice 33 k33) 28 w' w.heap.size (fun k_ => some k_ ≠ (v6 : Value).ownBlock) u111006 x111006_1) ∧ Aside0 (w'.heap[gb106]? = some (.cells #[.int .i64 0, .int .i64 0, .int .i64 0, (.slice none 0 0), .int .i64 0, .int .i64 0, (.slice none 0 0)] 26 (0, 0))) ∧ Aside0 (w'.heap[gb110]? = some (.cells #[.int .i64 2, .int .i64 1, .int .i64 1, (.slice Ao7 y107.length co7), .int .i64 1, .int .i64 1, u111006] 26 (0, 0))) ∧ Aside0 (Below w.heap.size w w'))
 case atStart => exact ⟨(x6_2), (0), (by first | rfl | (simp; done) | (simp [*]; done)), H', ⟨Nat.le_refl _⟩, ⟨by (with_reducible repeat (first | apply Kd.R_alloc | apply Kd.R_drewN | apply Kd.R_drew)); exact HO_6.out⟩, ⟨by (with_reducible repeat (first | apply Kd.R_alloc | apply Kd.R_drewN | apply Kd.R_drew)); exact HO_111003.out⟩, ⟨by (with_reducible repeat (first | apply Kd.S_alloc | apply Kd.S_drewN | apply Kd.S_drew)); exact HO_111006.out⟩, ⟨by (with_reducible repeat (first | refine blk_drewN ?_ _ | refine blk_drew ?_ | refine blk_alloc ?_ _)); exact BK106.out⟩, ⟨by (with_reducible repeat (first | refine blk_drewN ?_ _ | refine blk_drew ?_ | refine blk_alloc ?_ _)); exact BK110.out⟩, ⟨by repeat (first | (with_reducible first | exact HB.out | apply below_alloc | apply pw_below_drewN | apply below_drew1 | refine below_set ?_ GE106.out | refine below_set ?_ GE110.out) | exact HB.out)⟩⟩
 case round => (
 clear H'
 try clear c1
 try clear p1
 try clear q1
 try clear hx1
 try clear p2
 try clear p6
 try clear c8
 try clear c9
 try clear c11
 try clear c11b0
 try clear p11
 try clear q11
 try clear hx11
 try clear c12
 try clear c12b0
 try clear c13
 try clear c13b0
 try clear c13b1
 try clear c14
 try clear c16
 try clear c16b0
 try clear c17
 try clear c17b0
 try clear hcz10_0
 try clear hcz10_1
 try clear hcz10_2
 try clear hcz10_3
 try clear hcz10_4
 try clear hcz10_5
 try clear hcz10_6
 try clear hfz10_0
 try clear hfz10_1
 try clear hfz10_2
 try clear hfz10_3
 try clear hfz10_4
 try clear hfz10_5
 try clear hfz10_6
 try clear hx114_0
 try clear p114
 try clear p2
 try clear q114
 obtain ⟨x6_3, x11_3, rfl, HA, HK3, HO_6, HO_111003, HO_111006, BK106, BK110, HB⟩ := hrel
 cases gk with
 | zero => exact absurd HA.out (by simp [interlocklaw02_Make.l2])
 | succ k3 => (
 have H := HA.out
 clear HA
 simp only [interlocklaw02_Make.l2] at H
 by_cases c20 : x11_3 < ji18
 {
 rw [if_pos c20] at H
 have c20b0 : decide (x11_3 < ji18) = true := decide_eq_true c20
 clear c20
 obtain ⟨ji21, hji21⟩ : ∃ j_ : Int, (wrap64 (2 * x11_3)) = j_ := ⟨_, rfl⟩
 replace H : (if 0 ≤ (ji21) then (if (ji21) < ((rd_L1 l0 x5_1).length : Int) then (if 0 ≤ (wrap64 ((ji21) + 1)) then (if (wrap64 ((ji21) + 1)) < ((rd_L1 l0 x5_1).length : Int) then ((interlocklaw02_Ins.f k3 (rd (rd_L1 l0 x5_1) (ji21)) (rd (rd_L1 l0 x5_1) (wrap64 ((ji21) + 1))) (wrap64 ((x6_2.length : Int) + x11_3)) (wrap64 ((x6_2.length : Int) + ji18))).bind fun bt117 => (if x6_3.length < 4398046511104 then (interlocklaw02_Make.l2 k3 l0 ji3 x5_1 (x6_3 ++ [(⟨bt117.1, bt117.2.1, bt117.2.2.1, bt117.2.2.2⟩ : S33)]) (x6_2.length : Int) (rd_L1 l0 x5_1) ji18 (wrap64 (x11_3 + 1)) 2 1 1 y107 1 1 x111006_1) else (none))) else (none)) else (none)) else (none)) else (none)) = some (r1, r2, r3, r4, r5, r6, r7) := by first | (rw [hji21] at H; exact H) | (simp only [hji21] at H ⊢; exact H)
 have hji21w : (IntKind.i64.wrap (2 * x11_3)) = ji21 := (i64_w _).trans hji21
 by_cases c22 : 0 ≤ (ji21)
 {
 rw [if_pos c22] at H
 have c22b0 : decide (0 ≤ (ji21)) = true := decide_eq_true c22
 clear c22
 by_cases c23 : (ji21) < ((rd_L1 l0 x5_1).length : Int)
 {
 rw [if_pos c23] at H
 have c23b0 : decide ((ji21) < ((rd_L1 l0 x5_1).length : Int)) = true := decide_eq_true c23
 clear c23
 obtain ⟨ji24, hji24⟩ : ∃ j_ : Int, (wrap64 ((ji21) + 1)) = j_ := ⟨_, rfl⟩
 replace H : (if 0 ≤ (ji24) then (if (ji24) < ((rd_L1 l0 x5_1).length : Int) then ((interlocklaw02_Ins.f k3 (rd (rd_L1 l0 x5_1) (ji21)) (rd (rd_L1 l0 x5_1) (ji24)) (wrap64 ((x6_2.length : Int) + x11_3)) (wrap64 ((x6_2.length : Int) + ji18))).bind fun bt117 => (if x6_3.length < 4398046511104 then (interlocklaw02_Make.l2 k3 l0 ji3 x5_1 (x6_3 ++ [(⟨bt117.1, bt117.2.1, bt117.2.2.1, bt117.2.2.2⟩ : S33)]) (x6_2.length : Int) (rd_L1 l0 x5_1) ji18 (wrap64 (x11_3 + 1)) 2 1 1 y107 1 1 x111006_1) else (none))) else (none)) else (none)) = some (r1, r2, r3, r4, r5, r6, r7) := by first | (rw [hji24] at H; exact H) | (simp only [hji24] at H ⊢; exact H)
 have hji24w : (IntKind.i64.wrap ((ji21) + 1)) = ji24 := (i64_w _).trans hji24
 by_cases c25 : 0 ≤ (ji24)
 {
 rw [if_pos c25] at H
 have c25b0 : decide (0 ≤ (ji24)) = true := decide_eq_true c25
 clear c25
 by_cases c26 : (ji24) < ((rd_L1 l0 x5_1).length : Int)
 {
 rw [if_pos c26] at H
 have c26b0 : decide ((ji24) < ((rd_L1 l0 x5_1).length : Int)) = true := decide_eq_true c26
 clear c26
 replace H := Option.bind_eq_some_iff.mp H
 obtain ⟨⟨t117, t118, t119, t120⟩, A270, H⟩ := H
 replace H : (if x6_3.length < 4398046511104 then (interlocklaw02_Make.l2 k3 l0 ji3 x5_1 (x6_3 ++ [(⟨t117, t118, t119, t120⟩ : S33)]) (x6_2.length : Int) (rd_L1 l0 x5_1) ji18 (wrap64 (x11_3 + 1)) 2 1 1 y107 1 1 x111006_1) else (none)) = some (r1, r2, r3, r4, r5, r6, r7) := H
 have A27 := Aside0.mk A270
 clear A270
 by_cases c28 : x6_3.length < 4398046511104
 {
 rw [if_pos c28] at H
 have LMc28 := Aside0.mk c28
 clear c28
 obtain ⟨y121, hy121⟩ : ∃ y_ : List (S33), y_ = (x6_3 ++ [(⟨t117, t118, t119, t120⟩ : S33)]) := ⟨_, rfl⟩
 replace H : (interlocklaw02_Make.l2 k3 l0 ji3 x5_1 y121 (x6_2.length : Int) (rd_L1 l0 x5_1) ji18 (wrap64 (x11_3 + 1)) 2 1 1 y107 1 1 x111006_1) = some (r1, r2, r3, r4, r5, r6, r7) := by first | (rw [hy121]; with_reducible exact H) | (have H2_ := (Option.bind_some _ _).symm.trans H; rw [hy121]; with_reducible exact H2_) | (have H2_ := (Option.bind_some _ _).symm.trans H; with_reducible exact H2_) | with_reducible exact H | (rw [hy121]; exact H) | exact H
 have Ny121 := Aside0.mk hy121
 clear hy121
 have H' := Aside0.mk H
 clear H
 try go_wp2
 have n0_ := Aside0.mk (Kd.R_drew HO_6.out)
 have n1_ := Aside0.mk (Kd.R_drew HO_111003.out)
 have n2_ := Aside0.mk (Kd.S_drew HO_111006.out)
 have n3_ := Aside0.mk (blk_drew BK106.out)
 have n4_ := Aside0.mk (blk_drew BK110.out)
 have n5_ := Aside0.mk (below_drew1 HB.out)
 clear HO_6
 clear HO_111003
 clear HO_111006
 clear BK106
 clear BK110
 clear HB
 have HO_6 := n0_
 have HO_111003 := n1_
 have HO_111006 := n2_
 have BK106 := n3_
 have BK110 := n4_
 have HB := n5_
 clear n0_ n1_ n2_ n3_ n4_ n5_
 have p115 : 0 ≤ ((ji21) : Int) := of_decide_eq_true (by first | (with_reducible assumption) | assumption)
 have q115 : (ji21) < ((rd_L1 l0 x5_1).length : Int) := of_decide_eq_true (by first | (with_reducible assumption) | assumption)
 obtain ⟨ad115, e115, hx115_0⟩ := Kd.at_int HR114_0.out (ji21) p115 q115
 have hw115_0 := hx115_0
 cases e115
 replace hx115_0 := (HB.out.cell (World.block_lt_of_cell? w _ hx115_0)).trans hx115_0
 replace p115 := eq_true p115
 replace q115 := eq_true q115
 have p116 : 0 ≤ ((ji24) : Int) := of_decide_eq_true (by first | (with_reducible assumption) | assumption)
 have q116 : (ji24) < ((rd_L1 l0 x5_1).length : Int) := of_decide_eq_true (by first | (with_reducible assumption) | assumption)
 obtain ⟨ad116, e116, hx116_0⟩ := Kd.at_int HR114_0.out (ji24) p116 q116
 have hw116_0 := hx116_0
 obtain rfl : ad115 = ad116 := (by injection e116)
 replace hx116_0 := (HB.out.cell (World.block_lt_of_cell? w _ hx116_0)).trans hx116_0
 replace p116 := eq_true p116
 replace q116 := eq_true q116
 refine start_ (n := 22) (S := fun w' => w'.cell? (ad115.add ((ji21)).toNat) = some (.int .u8 (rd (rd_L1 l0 x5_1) (ji21))) ∧ w'.cell? (ad115.add ((ji24)).toNat) = some (.int .u8 (rd (rd_L1 l0 x5_1) (ji24)))) (ds := []) (bm 22 0) (by kernel_rfl) rfl (by kernel_rfl) ⟨((HB.out.cell (World.block_lt_of_cell? w _ hw115_0)).trans hw115_0), ((HB.out.cell (World.block_lt_of_cell? w _ hw116_0)).trans hw116_0)⟩ (fun hHeld => ?_); refine with_tabW interlocklaw02_Make.tab19 interlocklaw02_Make.bits19 (fun HT_ HW_ => ?_)
 generalize wr.drew = w29 at HO_6 HO_111003 HO_111006 BK106 BK110 HB hx115_0 hx116_0 hHeld ⊢
 refine pu 0 56 HT_ ?_
 refine pu 1 57 HT_ ?_
 refine pu 2 58 HT_ ?_
 refine pu 3 59 HT_ ?_
 refine pu 4 60 HT_ ?_
 refine pu 6 62 HT_ ?_
 refine pu 7 63 HT_ ?_
 refine pu 8 64 HT_ ?_
 refine pu 9 65 HT_ ?_
 refine pu 10 66 HT_ ?_
 refine pu 12 68 HT_ ?_
 refine pu 13 69 HT_ ?_
 refine pu 14 70 HT_ ?_
 refine pu 15 71 HT_ ?_
 refine pu 16 72 HT_ ?_
 refine pu 17 73 HT_ ?_
 refine tw 5 61 HT_ HW_ hHeld (v := ?_) ?_ ?_; rotate_left
 {
 rintro w' ⟨s0, s1⟩
 go_simp
 with_reducible rfl
 }
 refine tw 11 67 HT_ HW_ hHeld (v := ?_) ?_ ?_; rotate_left
 {
 rintro w' ⟨s0, s1⟩
 go_simp
 with_reducible rfl
 }
 refine on 18 (some 74) HT_ (fun K hK => ?_)
 refine goes_ Try.func16 (by kernel_rfl) rfl #[.int .u8 (rd (rd_L1 l0 x5_1) (ji21)), .int .u8 (rd (rd_L1 l0 x5_1) (ji24)), .int .i64 (wrap64 ((x6_2.length : Int) + x11_3)), .int .i64 (wrap64 ((x6_2.length : Int) + ji18))] (by rfl) rfl rfl (by (try simp only [List.map_toArray, List.map_cons, List.map_nil]); first | done | (simp only [hji18, hji21, hji24]; rfl) | rfl | (simp only [List.length_drop, List.length_take]; rfl)) ?_
 with_reducible refine (interlocklaw02_Ins.calls k3 (rd (rd_L1 l0 x5_1) (ji21)) (rd (rd_L1 l0 x5_1) (ji24)) (wrap64 ((x6_2.length : Int) + x11_3)) (wrap64 ((x6_2.length : Int) + ji18)) t117 t118 t119 t120 _ A27.out).mono ?_
 rintro e w30 ⟨rfl, hb⟩
 refine ⟨_, rfl, ?_⟩
 have n0_ := Aside0.mk (Kd.R_below (by (with_reducible repeat (first | apply Kd.R_alloc | apply Kd.R_drewN | apply Kd.R_drew)); exact HO_6.out) hb)
 have n1_ := Aside0.mk (Kd.R_below (by (with_reducible repeat (first | apply Kd.R_alloc | apply Kd.R_drewN | apply Kd.R_drew)); exact HO_111003.out) hb)
 have n2_ := Aside0.mk (Kd.S_below (by (with_reducible repeat (first | apply Kd.S_alloc | apply Kd.S_drewN | apply Kd.S_drew)); exact HO_111006.out) hb)
 have n3_ := Aside0.mk (blk_below (g := gb106) (o := .cells #[.int .i64 0, .int .i64 0, .int .i64 0, .slice none 0 0, .int .i64 0, .int .i64 0, .slice none 0 0] 26 (0, 0)) (by (with_reducible repeat (first | refine blk_drewN ?_ _ | refine blk_drew ?_ | refine blk_alloc ?_ _)); exact BK106.out) hb)
 have n4_ := Aside0.mk (blk_below (g := gb110) (o := .cells #[.int .i64 2, .int .i64 1, .int .i64 1, .slice Ao7 y107.length co7, .int .i64 1, .int .i64 1, u111006] 26 (0, 0)) (by (with_reducible repeat (first | refine blk_drewN ?_ _ | refine blk_drew ?_ | refine blk_alloc ?_ _)); exact BK110.out) hb)
 have n5_ := Aside0.mk (below_step (by repeat (first | (with_reducible first | exact HB.out | apply below_alloc | apply pw_below_drewN | apply below_drew1 | refine below_set ?_ GE106.out | refine below_set ?_ GE110.out) | exact HB.out)) hb)
 clear HO_6
 clear HO_111003
 clear HO_111006
 clear BK106
 clear BK110
 clear HB
 have HO_6 := n0_
 have HO_111003 := n1_
 have HO_111006 := n2_
 have BK106 := n3_
 have BK110 := n4_
 have HB := n5_
 clear n0_ n1_ n2_ n3_ n4_ n5_
 (try clear hb)
 (try clear hb2)
 (try clear hk)
 (try clear hi)
 refine hK.out _ _ ⟨((HB.out.cell (World.block_lt_of_cell? w _ hw115_0)).trans hw115_0), ((HB.out.cell (World.block_lt_of_cell? w _ hw116_0)).trans hw116_0)⟩ (fun hHeld => ?_)
 clear hK K
 refine nm 74 ?_
 refine on 19 (some 75) HT_ (fun K hK => ?_)
 refine value_ (w1 := ?_) (v := ?_) (by rfl) rfl ?_ ?_
 rotate_left 2
 {
 go_simp
 constructor
 {
 rfl
 }
 {
 rfl
 }
 }
 refine hK.out _ _ ⟨(World.cell?_alloc_lt _ _ _ (World.block_lt_of_cell? _ _ (((HB.out.cell (World.block_lt_of_cell? w _ hw115_0)).trans hw115_0)))).trans (((HB.out.cell (World.block_lt_of_cell? w _ hw115_0)).trans hw115_0)), (World.cell?_alloc_lt _ _ _ (World.block_lt_of_cell? _ _ (((HB.out.cell (World.block_lt_of_cell? w _ hw116_0)).trans hw116_0)))).trans (((HB.out.cell (World.block_lt_of_cell? w _ hw116_0)).trans hw116_0))⟩ (fun hHeld => ?_)
 clear hK K
 refine nm 75 ?_
 refine on 20 (some 76) HT_ (fun K hK => ?_)
 refine Kd.R_append_step k33 (w0 := w) w.heap.size (by rfl) (.tmp 56) (.tmp 75) 28 33 (.agg #[(.int .u8 0), (.int .i64 0), (.int .i64 0), (.int .i64 0)]) 32 rfl Try.underlying28 info33 rfl (by decide) (by omega) u6 x6_3 (⟨t117, t118, t119, t120⟩ : S33) [.int .u8 t117, .int .i64 t118, .int .i64 t119, .int .i64 t120] (fun _ => True) (fun _ => False) rfl rfl ?aP (fun _ hk => hk.elim) ?aF ?aO ?aB ?aS ?aL ?_
 (case aP => exact k33_mkM _ _ _ (⟨t117, t118, t119, t120⟩ : S33))
 (case aB => exact (by repeat (first | (with_reducible first | exact HB.out | apply below_alloc | apply pw_below_drewN | apply below_drew1 | refine below_set ?_ GE106.out | refine below_set ?_ GE110.out) | exact HB.out)))
 (case aF => exact (fun _ _ => trivial))
 (case aO => exact (by (with_reducible repeat (first | apply Kd.R_alloc | apply Kd.R_drewN | apply Kd.R_drew)); exact HO_6.out))
 (case aS => exact (below_size (by repeat (first | (with_reducible first | exact HB.out | apply below_alloc | apply pw_below_drewN | apply below_drew1 | refine below_set ?_ GE106.out | refine below_set ?_ GE110.out) | exact HB.out))))
 (case aL => have := LMc28.out; omega)
 intro v122 w31 ho hb hg hat
 rw [← Ny121.out] at ho
 have n0_ := Aside0.mk (Kd.R_over' (by (with_reducible repeat (first | apply Kd.R_alloc | apply Kd.R_drewN | apply Kd.R_drew)); exact HO_111003.out) (Kd.R_typed (by (with_reducible repeat (first | apply Kd.R_alloc | apply Kd.R_drewN | apply Kd.R_drew)); exact HO_6.out)) (by decide) hg)
 have n1_ := Aside0.mk (Kd.S_after (ok := (fun _ => True)) (by (with_reducible repeat (first | apply Kd.S_alloc | apply Kd.S_drewN | apply Kd.S_drew)); exact Kd.S_mono HO_111006.out (fun _ hk => ⟨trivial, hk⟩)) hg hat)
 have n2_ := Aside0.mk (blk_grown (g := gb106) (o := .cells #[.int .i64 0, .int .i64 0, .int .i64 0, .slice none 0 0, .int .i64 0, .int .i64 0, .slice none 0 0] 26 (0, 0)) (by (with_reducible repeat (first | refine blk_drewN ?_ _ | refine blk_drew ?_ | refine blk_alloc ?_ _)); exact BK106.out) hg (Kd.R_ne HO_6.out BK106.out (by decide)))
 have n3_ := Aside0.mk (blk_grown (g := gb110) (o := .cells #[.int .i64 2, .int .i64 1, .int .i64 1, .slice Ao7 y107.length co7, .int .i64 1, .int .i64 1, u111006] 26 (0, 0)) (by (with_reducible repeat (first | refine blk_drewN ?_ _ | refine blk_drew ?_ | refine blk_alloc ?_ _)); exact BK110.out) hg (Kd.R_ne HO_6.out BK110.out (by decide)))
 have n4_ := Aside0.mk (hb)
 have n5_ := Aside0.mk (ho)
 clear HO_111003
 clear HO_111006
 clear BK106
 clear BK110
 clear HB
 clear HO_6
 have HO_111003 := n0_
 have HO_111006 := n1_
 have BK106 := n2_
 have BK110 := n3_
 have HB := n4_
 have HO123 := n5_
 clear n0_ n1_ n2_ n3_ n4_ n5_
 clear ho hb hg hat
 refine hK.out _ _ ⟨((HB.out.cell (World.block_lt_of_cell? w _ hw115_0)).trans hw115_0), ((HB.out.cell (World.block_lt_of_cell? w _ hw116_0)).trans hw116_0)⟩ (fun hHeld => ?_)
 clear hK K
 refine nm 76 ?_
 refine pu 21 6 HT_ ?_
 refine dn HT_ ?_
 try go_wp2
 go_roundg k3
 case measure => have := HK1.out; have := HK2.out; have := HK3.out; omega
 case rel => exact ⟨(y121), (wrap64 (x11_3 + 1)), (by first | rfl | (simp; done) | (simp [*]; done)), H', ⟨by have := HK1.out; have := HK2.out; have := HK3.out; omega⟩, ⟨by (with_reducible repeat (first | apply Kd.R_alloc | apply Kd.R_drewN | apply Kd.R_drew)); exact HO123.out⟩, ⟨by (with_reducible repeat (first | apply Kd.R_alloc | apply Kd.R_drewN | apply Kd.R_drew)); exact HO_111003.out⟩, ⟨by (with_reducible repeat (first | apply Kd.S_alloc | apply Kd.S_drewN | apply Kd.S_drew)); exact Kd.S_mono HO_111006.out (fun _ hk => hk.2)⟩, ⟨by (with_reducible repeat (first | refine blk_drewN ?_ _ | refine blk_drew ?_ | refine blk_alloc ?_ _)); exact BK106.out⟩, ⟨by (with_reducible repeat (first | refine blk_drewN ?_ _ | refine blk_drew ?_ | refine blk_alloc ?_ _)); exact BK110.out⟩, ⟨by repeat (first | (with_reducible first | exact HB.out | apply below_alloc | apply pw_below_drewN | apply below_drew1 | refine below_set ?_ GE106.out | refine below_set ?_ GE110.out) | exact HB.out)⟩⟩
 }
 {
 rw [if_neg c28] at H
 exact absurd H (by simp)
 }
 }
 {
 rw [if_neg c26] at H
 exact absurd H (by simp)
 }
 }
 {
 rw [if_neg c25] at H
 exact absurd H (by simp)
 }
 }
 {
 rw [if_neg c23] at H
 exact absurd H (by simp)
 }
 }
 {
 rw [if_neg c22] at H
 exact absurd H (by simp)
 }
 }
 {
 rw [if_neg c20] at H
 have c20b0 : decide (x11_3 < ji18) = false := decide_eq_false c20
 clear c20
 by_cases c32 : x111006_1.length < 5864062014805
 {
 rw [if_pos c32] at H
 have LMc32 := Aside0.mk c32
 clear c32
 obtain ⟨y124, hy124⟩ : ∃ y_ : List (List (S33)), y_ = (x111006_1 ++ [x6_3]) := ⟨_, rfl⟩
 replace H : (interlocklaw02_Make.l0 k3 l0 ji3 (wrap64 (x5_1 + 1)) 2 1 1 y107 1 1 y124) = some (r1, r2, r3, r4, r5, r6, r7) := by first | (rw [hy124]; with_reducible exact H) | (have H2_ := (Option.bind_some _ _).symm.trans H; rw [hy124]; with_reducible exact H2_) | (have H2_ := (Option.bind_some _ _).symm.trans H; with_reducible exact H2_) | with_reducible exact H | (rw [hy124]; exact H) | exact H
 have Ny124 := Aside0.mk hy124
 clear hy124
 have H' := Aside0.mk H
 clear H
 have hnb33 := NB110_106.out
 have hnc33 := NB106_110.out
 have hcz34_0 : wr.cell? ⟨gb110, 0, none⟩ = some (.int .i64 2) := (blk_cell BK110.out 0).trans rfl
 have hcz34_1 : wr.cell? ⟨gb110, 1, none⟩ = some (.int .i64 1) := (blk_cell BK110.out 1).trans rfl
 have hcz34_2 : wr.cell? ⟨gb110, 2, none⟩ = some (.int .i64 1) := (blk_cell BK110.out 2).trans rfl
 have hcz34_3 : wr.cell? ⟨gb110, 3, none⟩ = some (.slice Ao7 y107.length co7) := (blk_cell BK110.out 3).trans rfl
 have hcz34_4 : wr.cell? ⟨gb110, 4, none⟩ = some (.int .i64 1) := (blk_cell BK110.out 4).trans rfl
 have hcz34_5 : wr.cell? ⟨gb110, 5, none⟩ = some (.int .i64 1) := (blk_cell BK110.out 5).trans rfl
 have hcz34_6 : wr.cell? ⟨gb110, 6, none⟩ = some (u111006) := (blk_cell BK110.out 6).trans rfl
 have hfz34_0 := blk_frozen BK110.out 0
 have hfz34_1 := blk_frozen BK110.out 1
 have hfz34_2 := blk_frozen BK110.out 2
 have hfz34_3 := blk_frozen BK110.out 3
 have hfz34_4 := blk_frozen BK110.out 4
 have hfz34_5 := blk_frozen BK110.out 5
 have hfz34_6 := blk_frozen BK110.out 6
 obtain ⟨Ao36, co36, eo36⟩ := Kd.R_slice HO_6.out
 subst eo36
 go_wp2_with (first | ((with_reducible refine gate_builtin (b := .append) (xs := #[.tmp 78, .tmp 80]) rfl ?_); at_builtin; refine Kd.S_append (Kd.slice 33 k33) (w0 := w) w.heap.size rfl (.tmp 78) (.tmp 80) 24 28 (.slice none 0 0) 24 rfl Try.underlying24 info28 rfl (by decide) (by omega) u111006 x111006_1 x6_3 [.slice Ao36 x6_3.length co36] (fun _ => True) (fun k_ => some k_ = (.slice Ao36 x6_3.length co36 : Value).ownBlock) rfl rfl ?aP (fun k_ hk_ => ((Kd.R_mono (ok' := fun k_ => ((fun _ => True)) k_ ∧ some k_ ≠ (u111006 : Value).ownBlock) (Kd.R_apart' (HO_6.out) (Kd.S_typed HO_111006.out) (by decide)) (fun k_ hk => ⟨trivial, hk.2⟩))).1 k_ hk_.symm) ?aF ?aO ?aB ?aS ?aL ?_; (case aP => exact Kd.M_row (Kd.R_mono (Kd.R_tight rfl (Kd.R_mono (ok' := fun k_ => ((fun _ => True)) k_ ∧ some k_ ≠ (u111006 : Value).ownBlock) (Kd.R_apart' (HO_6.out) (Kd.S_typed HO_111006.out) (by decide)) (fun k_ hk => ⟨trivial, hk.2⟩))) (fun _ h_ => h_))); (case aB => exact (by repeat (first | (with_reducible first | exact HB.out | apply below_alloc | apply pw_below_drewN | apply below_drew1 | refine below_set ?_ GE106.out | refine below_set ?_ GE110.out) | exact HB.out))); (case aF => exact (fun _ _ => trivial)); (case aO => exact (by (with_reducible repeat (first | apply Kd.S_alloc | apply Kd.S_drewN | apply Kd.S_drew)); exact Kd.S_mono HO_111006.out (fun k_ hk => ⟨trivial, fun e_ => hk e_⟩))); (case aS => exact (below_size (by repeat (first | (with_reducible first | exact HB.out | apply below_alloc | apply pw_below_drewN | apply below_drew1 | refine below_set ?_ GE106.out | refine below_set ?_ GE110.out) | exact HB.out)))); (case aL => have := LMc32.out; omega); intro v125 w35 ho hb hg hat; rw [← Ny124.out] at ho; have n0_ := Aside0.mk (Kd.R_over' (by (with_reducible repeat (first | apply Kd.R_alloc | apply Kd.R_drewN | apply Kd.R_drew)); exact HO_111003.out) (Kd.S_typed (by (with_reducible repeat (first | apply Kd.S_alloc | apply Kd.S_drewN | apply Kd.S_drew)); exact HO_111006.out)) (by decide) hg); have n1_ := Aside0.mk (blk_grown (g := gb106) (o := .cells #[.int .i64 0, .int .i64 0, .int .i64 0, .slice none 0 0, .int .i64 0, .int .i64 0, .slice none 0 0] 26 (0, 0)) (by (with_reducible repeat (first | refine blk_drewN ?_ _ | refine blk_drew ?_ | refine blk_alloc ?_ _)); exact BK106.out) hg (Kd.S_ne HO_111006.out BK106.out (by decide))); have n2_ := Aside0.mk (blk_grown (g := gb110) (o := .cells #[.int .i64 2, .int .i64 1, .int .i64 1, .slice Ao7 y107.length co7, .int .i64 1, .int .i64 1, u111006] 26 (0, 0)) (by (with_reducible repeat (first | refine blk_drewN ?_ _ | refine blk_drew ?_ | refine blk_alloc ?_ _)); exact BK110.out) hg (Kd.S_ne HO_111006.out BK110.out (by decide))); have n3_ := Aside0.mk (hb); have n4_ := Aside0.mk (ho); clear HO_111003; clear BK106; clear BK110; clear HB; clear HO_111006; clear HO_6; have HO_111003 := n0_; have BK106 := n1_; have BK110 := n2_; have HB := n3_; have HO126 := n4_; clear n0_ n1_ n2_ n3_ n4_; clear ho hb hg hat; obtain ⟨Ao37, co37, eo37⟩ := Kd.S_slice HO126.out; subst eo37; have hcz38_0 : w35.cell? ⟨gb110, 0, none⟩ = some (.int .i64 2) := (blk_cell BK110.out 0).trans rfl; have hcz38_1 : w35.cell? ⟨gb110, 1, none⟩ = some (.int .i64 1) := (blk_cell BK110.out 1).trans rfl; have hcz38_2 : w35.cell? ⟨gb110, 2, none⟩ = some (.int .i64 1) := (blk_cell BK110.out 2).trans rfl; have hcz38_3 : w35.cell? ⟨gb110, 3, none⟩ = some (.slice Ao7 y107.length co7) := (blk_cell BK110.out 3).trans rfl; have hcz38_4 : w35.cell? ⟨gb110, 4, none⟩ = some (.int .i64 1) := (blk_cell BK110.out 4).trans rfl; have hcz38_5 : w35.cell? ⟨gb110, 5, none⟩ = some (.int .i64 1) := (blk_cell BK110.out 5).trans rfl; have hcz38_6 : w35.cell? ⟨gb110, 6, none⟩ = some (u111006) := (blk_cell BK110.out 6).trans rfl; have hfz38_0 := blk_frozen BK110.out 0; have hfz38_1 := blk_frozen BK110.out 1; have hfz38_2 := blk_frozen BK110.out 2; have hfz38_3 := blk_frozen BK110.out 3; have hfz38_4 := blk_frozen BK110.out 4; have hfz38_5 := blk_frozen BK110.out 5; have hfz38_6 := blk_frozen BK110.out 6))
 go_roundg k3
 case measure => have := HK1.out; have := HK2.out; have := HK3.out; omega
 case rel => exact ⟨(wrap64 (x5_1 + 1)), (y124), (.slice Ao37 y124.length co37), (by first | rfl | (simp; done) | (simp [*]; done)), H', ⟨by have := HK1.out; have := HK2.out; have := HK3.out; omega⟩, ⟨by (with_reducible repeat (first | apply Kd.R_alloc | apply Kd.R_drewN | apply Kd.R_drew)); exact Kd.R_mono (Kd.R_far (p := ⟨gb110, 6, none⟩) (Kd.R_types HO_111003.out BK110.out (by decide)) (fun _ hk => hk.2) (.slice Ao37 y124.length co37)) (fun _ hk => trivial)⟩, ⟨by (with_reducible repeat (first | apply Kd.S_alloc | apply Kd.S_drewN | apply Kd.S_drew)); exact Kd.S_mono (Kd.S_far (p := ⟨gb110, 6, none⟩) (Kd.S_types HO126.out BK110.out (by decide)) (fun _ hk => hk.2) (.slice Ao37 y124.length co37)) (fun _ hk => trivial)⟩, ⟨by (with_reducible repeat (first | refine blk_drewN ?_ _ | refine blk_drew ?_ | refine blk_alloc ?_ _)); refine blk_far ?_ NB106_110.out _; (with_reducible repeat (first | refine blk_drewN ?_ _ | refine blk_drew ?_ | refine blk_alloc ?_ _)); exact BK106.out⟩, ⟨by (with_reducible repeat (first | refine blk_drewN ?_ _ | refine blk_drew ?_ | refine blk_alloc ?_ _)); refine blk_put (cs := #[.int .i64 2, .int .i64 1, .int .i64 1, .slice Ao7 y107.length co7, .int .i64 1, .int .i64 1, u111006]) ?_ 6 _ rfl; (with_reducible repeat (first | refine blk_drewN ?_ _ | refine blk_drew ?_ | refine blk_alloc ?_ _)); exact BK110.out⟩, ⟨by repeat (first | (with_reducible first | exact HB.out | apply below_alloc | apply pw_below_drewN | apply below_drew1 | refine below_set ?_ GE106.out | refine below_set ?_ GE110.out) | exact HB.out)⟩⟩
 }
 {
 rw [if_neg c32] at H
 exact absurd H (by simp)
 }
 }
 )
 )
 }
 {
 rw [if_neg c17] at H
 exact absurd H (by simp)
 }
 }
 {
 rw [if_neg c16] at H
 have c16b0 : decide (x5_1 < (l0.length : Int)) = false := decide_eq_false c16
 clear c16
 have H' := Aside0.mk H
 clear H
 obtain ⟨Ao39, co39, eo39⟩ := Kd.R_slice HO_6.out
 subst eo39
 go_wp2
 go_loopg [6, 11] k2 (fun kq v6 v11 w' => ∃ (x6_3 : List (S33)) (x11_3 : Int), v11 = .int .i64 x11_3 ∧ Aside0 (interlocklaw02_Make.l3 kq l0 ji3 x5_1 x6_3 0 x11_3 2 1 1 y107 1 1 x111006_1 = some (r1, r2, r3, r4, r5, r6, r7)) ∧ Aside0 (kq ≤ k2) ∧ Aside0 (Kd.R k33 33 w' w.heap.size (fun _ => True) v6 x6_3) ∧ Aside0 (Kd.R (Kd.int .i64) 3 w' w.heap.size (fun _ => True) (.slice Ao7 y107.length co7) y107) ∧ Aside0 (Kd.S (Kd.slice 33 k33) 28 w' w.heap.size (fun k_ => some k_ ≠ (v6 : Value).ownBlock) u111006 x111006_1) ∧ Aside0 (w'.heap[gb106]? = some (.cells #[.int .i64 0, .int .i64 0, .int .i64 0, (.slice none 0 0), .int .i64 0, .int .i64 0, (.slice none 0 0)] 26 (0, 0))) ∧ Aside0 (w'.heap[gb110]? = some (.cells #[.int .i64 2, .int .i64 1, .int .i64 1, (.slice Ao7 y107.length co7), .int .i64 1, .int .i64 1, u111006] 26 (0, 0))) ∧ Aside0 (Below w.heap.size w w'))
 case atStart => exact ⟨(x6_2), (0), (by first | rfl | (simp; done) | (simp [*]; done)), H', ⟨Nat.le_refl _⟩, ⟨by (with_reducible repeat (first | apply Kd.R_alloc | apply Kd.R_drewN | apply Kd.R_drew)); exact HO_6.out⟩, ⟨by (with_reducible repeat (first | apply Kd.R_alloc | apply Kd.R_drewN | apply Kd.R_drew)); exact HO_111003.out⟩, ⟨by (with_reducible repeat (first | apply Kd.S_alloc | apply Kd.S_drewN | apply Kd.S_drew)); exact HO_111006.out⟩, ⟨by (with_reducible repeat (first | refine blk_drewN ?_ _ | refine blk_drew ?_ | refine blk_alloc ?_ _)); exact BK106.out⟩, ⟨by (with_reducible repeat (first | refine blk_drewN ?_ _ | refine blk_drew ?_ | refine blk_alloc ?_ _)); exact BK110.out⟩, ⟨by repeat (first | (with_reducible first | exact HB.out | apply below_alloc | apply pw_below_drewN | apply below_drew1 | refine below_set ?_ GE106.out | refine below_set ?_ GE110.out) | exact HB.out)⟩⟩
 case round => (
 clear H'
 try clear c1
 try clear p1
 try clear q1
 try clear hx1
 try clear c2
 try clear p2
 try clear c3
 try clear p6
 try clear c8
 try clear c9
 try clear c11
 try clear c11b0
 try clear p11
 try clear q11
 try clear hx11
 try clear c12
 try clear c12b0
 try clear c13
 try clear c13b0
 try clear c13b1
 try clear c14
 try clear c16
 try clear c16b0
 try clear c17
 try clear c17b0
 try clear c20
 try clear c20b0
 try clear c22
 try clear c22b0
 try clear c23
 try clear c23b0
 try clear c25
 try clear c25b0
 try clear c26
 try clear c26b0
 try clear c28
 try clear c32
 try clear c33
 try clear hcz10_0
 try clear hcz10_1
 try clear hcz10_2
 try clear hcz10_3
 try clear hcz10_4
 try clear hcz10_5
 try clear hcz10_6
 try clear hcz34_0
 try clear hcz34_1
 try clear hcz34_2
 try clear hcz34_3
 try clear hcz34_4
 try clear hcz34_5
 try clear hcz34_6
 try clear hcz38_0
 try clear hcz38_1
 try clear hcz38_2
 try clear hcz38_3
 try clear hcz38_4
 try clear hcz38_5
 try clear hcz38_6
 try clear hfz10_0
 try clear hfz10_1
 try clear hfz10_2
 try clear hfz10_3
 try clear hfz10_4
 try clear hfz10_5
 try clear hfz10_6
 try clear hfz34_0
 try clear hfz34_1
 try clear hfz34_2
 try clear hfz34_3
 try clear hfz34_4
 try clear hfz34_5
 try clear hfz34_6
 try clear hfz38_0
 try clear hfz38_1
 try clear hfz38_2
 try clear hfz38_3
 try clear hfz38_4
 try clear hfz38_5
 try clear hfz38_6
 try clear hx114_0
 try clear hx115_0
 try clear hx116_0
 try clear p1
 try clear p11
 try clear p114
 try clear p115
 try clear p116
 try clear p2
 try clear p6
 try clear q1
 try clear q11
 try clear q114
 try clear q115
 try clear q116
 obtain ⟨x6_3, x11_3, rfl, HA, HK3, HO_6, HO_111003, HO_111006, BK106, BK110, HB⟩ := hrel
 cases gk with
 | zero => exact absurd HA.out (by simp [interlocklaw02_Make.l3])
 | succ k3 => (
 have H := HA.out
 clear HA
 simp only [interlocklaw02_Make.l3] at H
 by_cases c40 : x11_3 < 0
 {
 rw [if_pos c40] at H
 have c40b0 : decide (x11_3 < 0) = true := decide_eq_true c40
 clear c40
 obtain ⟨ji41, hji41⟩ : ∃ j_ : Int, (wrap64 (2 * x11_3)) = j_ := ⟨_, rfl⟩
 replace H : (if 0 ≤ (ji41) then (if (ji41) < 0 then (none) else (none)) else (none)) = some (r1, r2, r3, r4, r5, r6, r7) := by first | (rw [hji41] at H; exact H) | (simp only [hji41] at H ⊢; exact H)
 have hji41w : (IntKind.i64.wrap (2 * x11_3)) = ji41 := (i64_w _).trans hji41
 by_cases c42 : 0 ≤ (ji41)
 {
 rw [if_pos c42] at H
 have c42b0 : decide (0 ≤ (ji41)) = true := decide_eq_true c42
 clear c42
 by_cases c43 : (ji41) < 0
 {
 rw [if_pos c43] at H
 exact absurd H (by simp)
 }
 {
 rw [if_neg c43] at H
 exact absurd H (by simp)
 }
 }
 {
 rw [if_neg c42] at H
 exact absurd H (by simp)
 }
 }
 {
 rw [if_neg c40] at H
 have c40b0 : decide (x11_3 < 0) = false := decide_eq_false c40
 clear c40
 by_cases c44 : x111006_1.length < 5864062014805
 {
 rw [if_pos c44] at H
 have LMc44 := Aside0.mk c44
 clear c44
 obtain ⟨y127, hy127⟩ : ∃ y_ : List (List (S33)), y_ = (x111006_1 ++ [x6_3]) := ⟨_, rfl⟩
 replace H : (interlocklaw02_Make.l0 k3 l0 ji3 (wrap64 (x5_1 + 1)) 2 1 1 y107 1 1 y127) = some (r1, r2, r3, r4, r5, r6, r7) := by first | (rw [hy127]; with_reducible exact H) | (have H2_ := (Option.bind_some _ _).symm.trans H; rw [hy127]; with_reducible exact H2_) | (have H2_ := (Option.bind_some _ _).symm.trans H; with_reducible exact H2_) | with_reducible exact H | (rw [hy127]; exact H) | exact H
 have Ny127 := Aside0.mk hy127
 clear hy127
 have H' := Aside0.mk H
 clear H
 have hnb45 := NB110_106.out
 have hnc45 := NB106_110.out
 have hcz46_0 : wr.cell? ⟨gb110, 0, none⟩ = some (.int .i64 2) := (blk_cell BK110.out 0).trans rfl
 have hcz46_1 : wr.cell? ⟨gb110, 1, none⟩ = some (.int .i64 1) := (blk_cell BK110.out 1).trans rfl
 have hcz46_2 : wr.cell? ⟨gb110, 2, none⟩ = some (.int .i64 1) := (blk_cell BK110.out 2).trans rfl
 have hcz46_3 : wr.cell? ⟨gb110, 3, none⟩ = some (.slice Ao7 y107.length co7) := (blk_cell BK110.out 3).trans rfl
 have hcz46_4 : wr.cell? ⟨gb110, 4, none⟩ = some (.int .i64 1) := (blk_cell BK110.out 4).trans rfl
 have hcz46_5 : wr.cell? ⟨gb110, 5, none⟩ = some (.int .i64 1) := (blk_cell BK110.out 5).trans rfl
 have hcz46_6 : wr.cell? ⟨gb110, 6, none⟩ = some (u111006) := (blk_cell BK110.out 6).trans rfl
 have hfz46_0 := blk_frozen BK110.out 0
 have hfz46_1 := blk_frozen BK110.out 1
 have hfz46_2 := blk_frozen BK110.out 2
 have hfz46_3 := blk_frozen BK110.out 3
 have hfz46_4 := blk_frozen BK110.out 4
 have hfz46_5 := blk_frozen BK110.out 5
 have hfz46_6 := blk_frozen BK110.out 6
 obtain ⟨Ao48, co48, eo48⟩ := Kd.R_slice HO_6.out
 subst eo48
 go_wp2_with (first | ((with_reducible refine gate_builtin (b := .append) (xs := #[.tmp 78, .tmp 80]) rfl ?_); at_builtin; refine Kd.S_append (Kd.slice 33 k33) (w0 := w) w.heap.size rfl (.tmp 78) (.tmp 80) 24 28 (.slice none 0 0) 24 rfl Try.underlying24 info28 rfl (by decide) (by omega) u111006 x111006_1 x6_3 [.slice Ao48 x6_3.length co48] (fun _ => True) (fun k_ => some k_ = (.slice Ao48 x6_3.length co48 : Value).ownBlock) rfl rfl ?aP (fun k_ hk_ => ((Kd.R_mono (ok' := fun k_ => ((fun _ => True)) k_ ∧ some k_ ≠ (u111006 : Value).ownBlock) (Kd.R_apart' (HO_6.out) (Kd.S_typed HO_111006.out) (by decide)) (fun k_ hk => ⟨trivial, hk.2⟩))).1 k_ hk_.symm) ?aF ?aO ?aB ?aS ?aL ?_; (case aP => exact Kd.M_row (Kd.R_mono (Kd.R_tight rfl (Kd.R_mono (ok' := fun k_ => ((fun _ => True)) k_ ∧ some k_ ≠ (u111006 : Value).ownBlock) (Kd.R_apart' (HO_6.out) (Kd.S_typed HO_111006.out) (by decide)) (fun k_ hk => ⟨trivial, hk.2⟩))) (fun _ h_ => h_))); (case aB => exact (by repeat (first | (with_reducible first | exact HB.out | apply below_alloc | apply pw_below_drewN | apply below_drew1 | refine below_set ?_ GE106.out | refine below_set ?_ GE110.out) | exact HB.out))); (case aF => exact (fun _ _ => trivial)); (case aO => exact (by (with_reducible repeat (first | apply Kd.S_alloc | apply Kd.S_drewN | apply Kd.S_drew)); exact Kd.S_mono HO_111006.out (fun k_ hk => ⟨trivial, fun e_ => hk e_⟩))); (case aS => exact (below_size (by repeat (first | (with_reducible first | exact HB.out | apply below_alloc | apply pw_below_drewN | apply below_drew1 | refine below_set ?_ GE106.out | refine below_set ?_ GE110.out) | exact HB.out)))); (case aL => have := LMc44.out; omega); intro v128 w47 ho hb hg hat; rw [← Ny127.out] at ho; have n0_ := Aside0.mk (Kd.R_over' (by (with_reducible repeat (first | apply Kd.R_alloc | apply Kd.R_drewN | apply Kd.R_drew)); exact HO_111003.out) (Kd.S_typed (by (with_reducible repeat (first | apply Kd.S_alloc | apply Kd.S_drewN | apply Kd.S_drew)); exact HO_111006.out)) (by decide) hg); have n1_ := Aside0.mk (blk_grown (g := gb106) (o := .cells #[.int .i64 0, .int .i64 0, .int .i64 0, .slice none 0 0, .int .i64 0, .int .i64 0, .slice none 0 0] 26 (0, 0)) (by (with_reducible repeat (first | refine blk_drewN ?_ _ | refine blk_drew ?_ | refine blk_alloc ?_ _)); exact BK106.out) hg (Kd.S_ne HO_111006.out BK106.out (by decide))); have n2_ := Aside0.mk (blk_grown (g := gb110) (o := .cells #[.int .i64 2, .int .i64 1, .int .i64 1, .slice Ao7 y107.length co7, .int .i64 1, .int .i64 1, u111006] 26 (0, 0)) (by (with_reducible repeat (first | refine blk_drewN ?_ _ | refine blk_drew ?_ | refine blk_alloc ?_ _)); exact BK110.out) hg (Kd.S_ne HO_111006.out BK110.out (by decide))); have n3_ := Aside0.mk (hb); have n4_ := Aside0.mk (ho); clear HO_111003; clear BK106; clear BK110; clear HB; clear HO_111006; clear HO_6; have HO_111003 := n0_; have BK106 := n1_; have BK110 := n2_; have HB := n3_; have HO129 := n4_; clear n0_ n1_ n2_ n3_ n4_; clear ho hb hg hat; obtain ⟨Ao49, co49, eo49⟩ := Kd.S_slice HO129.out; subst eo49; have hcz50_0 : w47.cell? ⟨gb110, 0, none⟩ = some (.int .i64 2) := (blk_cell BK110.out 0).trans rfl; have hcz50_1 : w47.cell? ⟨gb110, 1, none⟩ = some (.int .i64 1) := (blk_cell BK110.out 1).trans rfl; have hcz50_2 : w47.cell? ⟨gb110, 2, none⟩ = some (.int .i64 1) := (blk_cell BK110.out 2).trans rfl; have hcz50_3 : w47.cell? ⟨gb110, 3, none⟩ = some (.slice Ao7 y107.length co7) := (blk_cell BK110.out 3).trans rfl; have hcz50_4 : w47.cell? ⟨gb110, 4, none⟩ = some (.int .i64 1) := (blk_cell BK110.out 4).trans rfl; have hcz50_5 : w47.cell? ⟨gb110, 5, none⟩ = some (.int .i64 1) := (blk_cell BK110.out 5).trans rfl; have hcz50_6 : w47.cell? ⟨gb110, 6, none⟩ = some (u111006) := (blk_cell BK110.out 6).trans rfl; have hfz50_0 := blk_frozen BK110.out 0; have hfz50_1 := blk_frozen BK110.out 1; have hfz50_2 := blk_frozen BK110.out 2; have hfz50_3 := blk_frozen BK110.out 3; have hfz50_4 := blk_frozen BK110.out 4; have hfz50_5 := blk_frozen BK110.out 5; have hfz50_6 := blk_frozen BK110.out 6))
 go_roundg k3
 case measure => have := HK1.out; have := HK2.out; have := HK3.out; omega
 case rel => exact ⟨(wrap64 (x5_1 + 1)), (y127), (.slice Ao49 y127.length co49), (by first | rfl | (simp; done) | (simp [*]; done)), H', ⟨by have := HK1.out; have := HK2.out; have := HK3.out; omega⟩, ⟨by (with_reducible repeat (first | apply Kd.R_alloc | apply Kd.R_drewN | apply Kd.R_drew)); exact Kd.R_mono (Kd.R_far (p := ⟨gb110, 6, none⟩) (Kd.R_types HO_111003.out BK110.out (by decide)) (fun _ hk => hk.2) (.slice Ao49 y127.length co49)) (fun _ hk => trivial)⟩, ⟨by (with_reducible repeat (first | apply Kd.S_alloc | apply Kd.S_drewN | apply Kd.S_drew)); exact Kd.S_mono (Kd.S_far (p := ⟨gb110, 6, none⟩) (Kd.S_types HO129.out BK110.out (by decide)) (fun _ hk => hk.2) (.slice Ao49 y127.length co49)) (fun _ hk => trivial)⟩, ⟨by (with_reducible repeat (first | refine blk_drewN ?_ _ | refine blk_drew ?_ | refine blk_alloc ?_ _)); refine blk_far ?_ NB106_110.out _; (with_reducible repeat (first | refine blk_drewN ?_ _ | refine blk_drew ?_ | refine blk_alloc ?_ _)); exact BK106.out⟩, ⟨by (with_reducible repeat (first | refine blk_drewN ?_ _ | refine blk_drew ?_ | refine blk_alloc ?_ _)); refine blk_put (cs := #[.int .i64 2, .int .i64 1, .int .i64 1, .slice Ao7 y107.length co7, .int .i64 1, .int .i64 1, u111006]) ?_ 6 _ rfl; (with_reducible repeat (first | refine blk_drewN ?_ _ | refine blk_drew ?_ | refine blk_alloc ?_ _)); exact BK110.out⟩, ⟨by repeat (first | (with_reducible first | exact HB.out | apply below_alloc | apply pw_below_drewN | apply below_drew1 | refine below_set ?_ GE106.out | refine below_set ?_ GE110.out) | exact HB.out)⟩⟩
 }
 {
 rw [if_neg c44] at H
 exact absurd H (by simp)
 }
 }
 )
 )
 }
 }
 }
 {
 rw [if_neg c12] at H
 have c12b0 : decide (x7_2 < ji3) = false := decide_eq_false c12
 clear c12
 by_cases c51 : x5_1 < (l0.length : Int)
 {
 rw [if_pos c51] at H
 have c51b0 : decide (x5_1 < (l0.length : Int)) = true := decide_eq_true c51
 clear c51
 by_cases c52 : 0 ≤ x5_1
 {
 rw [if_pos c52] at H
 have c52b0 : decide (0 ≤ x5_1) = true := decide_eq_true c52
 clear c52
 obtain ⟨ji53, hji53⟩ : ∃ j_ : Int, (mn (wrap64 (((rd_L1 l0 x5_1).length : Int) / 2)) 9) = j_ := ⟨_, rfl⟩
 replace H : (interlocklaw02_Make.l4 k2 l0 ji3 x5_1 x6_2 (x6_2.length : Int) (rd_L1 l0 x5_1) ji53 0 2 1 1 y107 1 1 x111006_1) = some (r1, r2, r3, r4, r5, r6, r7) := by first | (rw [hji53] at H; exact H) | (simp only [hji53] at H ⊢; exact H)
 have hji53q : mn (IntKind.i64.wrap (((rd_L1 l0 x5_1).length : Int) / 2)) 9 = ji53 := by first | (rw [i64_w]; exact hji53) | (simp only [i64_w]; exact hji53)
 have hji53_ : (if 9 < (wrap64 (((rd_L1 l0 x5_1).length : Int) / 2)) then 9 else (wrap64 (((rd_L1 l0 x5_1).length : Int) / 2))) = ji53 := hji53
 have H' := Aside0.mk H
 clear H
 obtain ⟨Ao54, co54, eo54⟩ := Kd.R_slice HO_6.out
 subst eo54
 have p130 : 0 ≤ (x5_1 : Int) := of_decide_eq_true (by first | (with_reducible assumption) | assumption)
 have q130 : x5_1 < (l0.length : Int) := of_decide_eq_true (by first | (with_reducible assumption) | assumption)
 obtain ⟨ad130, A130_0, c130_0, e130, hx130_0, hl130_0, hi130_0⟩ := at_L1 HR0.out x5_1 p130 q130
 cases e130
 replace hx130_0 := (HB.out.cell (World.block_lt_of_cell? w _ hx130_0)).trans hx130_0
 have HR130_0 := Aside0.mk hi130_0
 have HC130_0 := Aside0.mk hl130_0
 clear hi130_0 hl130_0
 replace p130 := eq_true p130
 replace q130 := eq_true q130
 go_wp2
 go_loopg [6, 11] k2 (fun kq v6 v11 w' => ∃ (x6_3 : List (S33)) (x11_3 : Int), v11 = .int .i64 x11_3 ∧ Aside0 (interlocklaw02_Make.l4 kq l0 ji3 x5_1 x6_3 (x6_2.length : Int) (rd_L1 l0 x5_1) ji53 x11_3 2 1 1 y107 1 1 x111006_1 = some (r1, r2, r3, r4, r5, r6, r7)) ∧ Aside0 (kq ≤ k2) ∧ Aside0 (Kd.R k33 33 w' w.heap.size (fun _ => True) v6 x6_3) ∧ Aside0 (Kd.R (Kd.int .i64) 3 w' w.heap.size (fun _ => True) (.slice Ao7 y107.length co7) y107) ∧ Aside0 (Kd.S (Kd.slice 33 k33) 28 w' w.heap.size (fun k_ => some k_ ≠ (v6 : Value).ownBlock) u111006 x111006_1) ∧ Aside0 (w'.heap[gb106]? = some (.cells #[.int .i64 0, .int .i64 0, .int .i64 0, (.slice none 0 0), .int .i64 0, .int .i64 0, (.slice none 0 0)] 26 (0, 0))) ∧ Aside0 (w'.heap[gb110]? = some (.cells #[.int .i64 2, .int .i64 1, .int .i64 1, (.slice Ao7 y107.length co7), .int .i64 1, .int .i64 1, u111006] 26 (0, 0))) ∧ Aside0 (Below w.heap.size w w'))
 case atStart => exact ⟨(x6_2), (0), (by first | rfl | (simp; done) | (simp [*]; done)), H', ⟨Nat.le_refl _⟩, ⟨by (with_reducible repeat (first | apply Kd.R_alloc | apply Kd.R_drewN | apply Kd.R_drew)); exact HO_6.out⟩, ⟨by (with_reducible repeat (first | apply Kd.R_alloc | apply Kd.R_drewN | apply Kd.R_drew)); exact HO_111003.out⟩, ⟨by (with_reducible repeat (first | apply Kd.S_alloc | apply Kd.S_drewN | apply Kd.S_drew)); exact HO_111006.out⟩, ⟨by (with_reducible repeat (first | refine blk_drewN ?_ _ | refine blk_drew ?_ | refine blk_alloc ?_ _)); exact BK106.out⟩, ⟨by (with_reducible repeat (first | refine blk_drewN ?_ _ | refine blk_drew ?_ | refine blk_alloc ?_ _)); exact BK110.out⟩, ⟨by repeat (first | (with_reducible first | exact HB.out | apply below_alloc | apply pw_below_drewN | apply below_drew1 | refine below_set ?_ GE106.out | refine below_set ?_ GE110.out) | exact HB.out)⟩⟩
 case round => (
 clear H'
 try clear c1
 try clear p1
 try clear q1
 try clear hx1
 try clear c2
 try clear p2
 try clear c3
 try clear c4
 try clear c5
 try clear p6
 try clear c8
 try clear c9
 try clear c11
 try clear c11b0
 try clear p11
 try clear q11
 try clear hx11
 try clear c12
 try clear c12b0
 try clear c13
 try clear c13b0
 try clear c13b1
 try clear p13
 try clear q13
 try clear hx13
 try clear c14
 try clear c16
 try clear c16b0
 try clear c17
 try clear c17b0
 try clear c20
 try clear c20b0
 try clear c22
 try clear c22b0
 try clear c23
 try clear c23b0
 try clear c25
 try clear c25b0
 try clear c26
 try clear c26b0
 try clear c28
 try clear c32
 try clear c33
 try clear c40
 try clear c40b0
 try clear c42
 try clear c42b0
 try clear c43
 try clear c44
 try clear c45
 try clear c51
 try clear c51b0
 try clear c52
 try clear c52b0
 try clear hcz10_0
 try clear hcz10_1
 try clear hcz10_2
 try clear hcz10_3
 try clear hcz10_4
 try clear hcz10_5
 try clear hcz10_6
 try clear hcz34_0
 try clear hcz34_1
 try clear hcz34_2
 try clear hcz34_3
 try clear hcz34_4
 try clear hcz34_5
 try clear hcz34_6
 try clear hcz38_0
 try clear hcz38_1
 try clear hcz38_2
 try clear hcz38_3
 try clear hcz38_4
 try clear hcz38_5
 try clear hcz38_6
 try clear hcz46_0
 try clear hcz46_1
 try clear hcz46_2
 try clear hcz46_3
 try clear hcz46_4
 try clear hcz46_5
 try clear hcz46_6
 try clear hcz50_0
 try clear hcz50_1
 try clear hcz50_2
 try clear hcz50_3
 try clear hcz50_4
 try clear hcz50_5
 try clear hcz50_6
 try clear hfz10_0
 try clear hfz10_1
 try clear hfz10_2
 try clear hfz10_3
 try clear hfz10_4
 try clear hfz10_5
 try clear hfz10_6
 try clear hfz34_0
 try clear hfz34_1
 try clear hfz34_2
 try clear hfz34_3
 try clear hfz34_4
 try clear hfz34_5
 try clear hfz34_6
 try clear hfz38_0
 try clear hfz38_1
 try clear hfz38_2
 try clear hfz38_3
 try clear hfz38_4
 try clear hfz38_5
 try clear hfz38_6
 try clear hfz46_0
 try clear hfz46_1
 try clear hfz46_2
 try clear hfz46_3
 try clear hfz46_4
 try clear hfz46_5
 try clear hfz46_6
 try clear hfz50_0
 try clear hfz50_1
 try clear hfz50_2
 try clear hfz50_3
 try clear hfz50_4
 try clear hfz50_5
 try clear hfz50_6
 try clear hx114_0
 try clear hx115_0
 try clear hx116_0
 try clear hx130_0
 try clear p1
 try clear p11
 try clear p114
 try clear p115
 try clear p116
 try clear p130
 try clear p2
 try clear p6
 try clear q1
 try clear q11
 try clear q114
 try clear q115
 try clear q116
 try clear q130
 obtain ⟨x6_3, x11_3, rfl, HA, HK3, HO_6, HO_111003, HO_111006, BK106, BK110, HB⟩ := hrel
 cases gk with
 | zero => exact absurd HA.out (by simp [interlocklaw02_Make.l4])
 | succ k3 => (
 have H := HA.out
 clear HA
 simp only [interlocklaw02_Make.l4] at H
 by_cases c55 : x11_3 < ji53
 {
 rw [if_pos c55] at H
 have c55b0 : decide (x11_3 < ji53) = true := decide_eq_true c55
 clear c55
 obtain ⟨ji56, hji56⟩ : ∃ j_ : Int, (wrap64 (2 * x11_3)) = j_ := ⟨_, rfl⟩
 replace H : (if 0 ≤ (ji56) then (if (ji56) < ((rd_L1 l0 x5_1).length : Int) then (if 0 ≤ (wrap64 ((ji56) + 1)) then (if (wrap64 ((ji56) + 1)) < ((rd_L1 l0 x5_1).length : Int) then ((interlocklaw02_Ins.f k3 (rd (rd_L1 l0 x5_1) (ji56)) (rd (rd_L1 l0 x5_1) (wrap64 ((ji56) + 1))) (wrap64 ((x6_2.length : Int) + x11_3)) (wrap64 ((x6_2.length : Int) + ji53))).bind fun bt133 => (if x6_3.length < 4398046511104 then (interlocklaw02_Make.l4 k3 l0 ji3 x5_1 (x6_3 ++ [(⟨bt133.1, bt133.2.1, bt133.2.2.1, bt133.2.2.2⟩ : S33)]) (x6_2.length : Int) (rd_L1 l0 x5_1) ji53 (wrap64 (x11_3 + 1)) 2 1 1 y107 1 1 x111006_1) else (none))) else (none)) else (none)) else (none)) else (none)) = some (r1, r2, r3, r4, r5, r6, r7) := by first | (rw [hji56] at H; exact H) | (simp only [hji56] at H ⊢; exact H)
 have hji56w : (IntKind.i64.wrap (2 * x11_3)) = ji56 := (i64_w _).trans hji56
 by_cases c57 : 0 ≤ (ji56)
 {
 rw [if_pos c57] at H
 have c57b0 : decide (0 ≤ (ji56)) = true := decide_eq_true c57
 clear c57
 by_cases c58 : (ji56) < ((rd_L1 l0 x5_1).length : Int)
 {
 rw [if_pos c58] at H
 have c58b0 : decide ((ji56) < ((rd_L1 l0 x5_1).length : Int)) = true := decide_eq_true c58
 clear c58
 obtain ⟨ji59, hji59⟩ : ∃ j_ : Int, (wrap64 ((ji56) + 1)) = j_ := ⟨_, rfl⟩
 replace H : (if 0 ≤ (ji59) then (if (ji59) < ((rd_L1 l0 x5_1).length : Int) then ((interlocklaw02_Ins.f k3 (rd (rd_L1 l0 x5_1) (ji56)) (rd (rd_L1 l0 x5_1) (ji59)) (wrap64 ((x6_2.length : Int) + x11_3)) (wrap64 ((x6_2.length : Int) + ji53))).bind fun bt133 => (if x6_3.length < 4398046511104 then (interlocklaw02_Make.l4 k3 l0 ji3 x5_1 (x6_3 ++ [(⟨bt133.1, bt133.2.1, bt133.2.2.1, bt133.2.2.2⟩ : S33)]) (x6_2.length : Int) (rd_L1 l0 x5_1) ji53 (wrap64 (x11_3 + 1)) 2 1 1 y107 1 1 x111006_1) else (none))) else (none)) else (none)) = some (r1, r2, r3, r4, r5, r6, r7) := by first | (rw [hji59] at H; exact H) | (simp only [hji59] at H ⊢; exact H)
 have hji59w : (IntKind.i64.wrap ((ji56) + 1)) = ji59 := (i64_w _).trans hji59
 by_cases c60 : 0 ≤ (ji59)
 {
 rw [if_pos c60] at H
 have c60b0 : decide (0 ≤ (ji59)) = true := decide_eq_true c60
 clear c60
 by_cases c61 : (ji59) < ((rd_L1 l0 x5_1).length : Int)
 {
 rw [if_pos c61] at H
 have c61b0 : decide ((ji59) < ((rd_L1 l0 x5_1).length : Int)) = true := decide_eq_true c61
 clear c61
 replace H := Option.bind_eq_some_iff.mp H
 obtain ⟨⟨t133, t134, t135, t136⟩, A620, H⟩ := H
 replace H : (if x6_3.length < 4398046511104 then (interlocklaw02_Make.l4 k3 l0 ji3 x5_1 (x6_3 ++ [(⟨t133, t134, t135, t136⟩ : S33)]) (x6_2.length : Int) (rd_L1 l0 x5_1) ji53 (wrap64 (x11_3 + 1)) 2 1 1 y107 1 1 x111006_1) else (none)) = some (r1, r2, r3, r4, r5, r6, r7) := H
 have A62 := Aside0.mk A620
 clear A620
 by_cases c63 : x6_3.length < 4398046511104
 {
 rw [if_pos c63] at H
 have LMc63 := Aside0.mk c63
 clear c63
 obtain ⟨y137, hy137⟩ : ∃ y_ : List (S33), y_ = (x6_3 ++ [(⟨t133, t134, t135, t136⟩ : S33)]) := ⟨_, rfl⟩
 replace H : (interlocklaw02_Make.l4 k3 l0 ji3 x5_1 y137 (x6_2.length : Int) (rd_L1 l0 x5_1) ji53 (wrap64 (x11_3 + 1)) 2 1 1 y107 1 1 x111006_1) = some (r1, r2, r3, r4, r5, r6, r7) := by first | (rw [hy137]; with_reducible exact H) | (have H2_ := (Option.bind_some _ _).symm.trans H; rw [hy137]; with_reducible exact H2_) | (have H2_ := (Option.bind_some _ _).symm.trans H; with_reducible exact H2_) | with_reducible exact H | (rw [hy137]; exact H) | exact H
 have Ny137 := Aside0.mk hy137
 clear hy137
 have H' := Aside0.mk H
 clear H
 try go_wp2
 have n0_ := Aside0.mk (Kd.R_drew HO_6.out)
 have n1_ := Aside0.mk (Kd.R_drew HO_111003.out)
 have n2_ := Aside0.mk (Kd.S_drew HO_111006.out)
 have n3_ := Aside0.mk (blk_drew BK106.out)
 have n4_ := Aside0.mk (blk_drew BK110.out)
 have n5_ := Aside0.mk (below_drew1 HB.out)
 clear HO_6
 clear HO_111003
 clear HO_111006
 clear BK106
 clear BK110
 clear HB
 have HO_6 := n0_
 have HO_111003 := n1_
 have HO_111006 := n2_
 have BK106 := n3_
 have BK110 := n4_
 have HB := n5_
 clear n0_ n1_ n2_ n3_ n4_ n5_
 have p131 : 0 ≤ ((ji56) : Int) := of_decide_eq_true (by first | (with_reducible assumption) | assumption)
 have q131 : (ji56) < ((rd_L1 l0 x5_1).length : Int) := of_decide_eq_true (by first | (with_reducible assumption) | assumption)
 obtain ⟨ad131, e131, hx131_0⟩ := Kd.at_int HR130_0.out (ji56) p131 q131
 have hw131_0 := hx131_0
 cases e131
 replace hx131_0 := (HB.out.cell (World.block_lt_of_cell? w _ hx131_0)).trans hx131_0
 replace p131 := eq_true p131
 replace q131 := eq_true q131
 have p132 : 0 ≤ ((ji59) : Int) := of_decide_eq_true (by first | (with_reducible assumption) | assumption)
 have q132 : (ji59) < ((rd_L1 l0 x5_1).length : Int) := of_decide_eq_true (by first | (with_reducible assumption) | assumption)
 obtain ⟨ad132, e132, hx132_0⟩ := Kd.at_int HR130_0.out (ji59) p132 q132
 have hw132_0 := hx132_0
 obtain rfl : ad131 = ad132 := (by injection e132)
 replace hx132_0 := (HB.out.cell (World.block_lt_of_cell? w _ hx132_0)).trans hx132_0
 replace p132 := eq_true p132
 replace q132 := eq_true q132
 refine start_ (n := 22) (S := fun w' => w'.cell? (ad131.add ((ji56)).toNat) = some (.int .u8 (rd (rd_L1 l0 x5_1) (ji56))) ∧ w'.cell? (ad131.add ((ji59)).toNat) = some (.int .u8 (rd (rd_L1 l0 x5_1) (ji59)))) (ds := []) (bm 22 0) (by kernel_rfl) rfl (by kernel_rfl) ⟨((HB.out.cell (World.block_lt_of_cell? w _ hw131_0)).trans hw131_0), ((HB.out.cell (World.block_lt_of_cell? w _ hw132_0)).trans hw132_0)⟩ (fun hHeld => ?_); refine with_tabW interlocklaw02_Make.tab19 interlocklaw02_Make.bits19 (fun HT_ HW_ => ?_)
 generalize wr.drew = w64 at HO_6 HO_111003 HO_111006 BK106 BK110 HB hx131_0 hx132_0 hHeld ⊢
 refine pu 0 56 HT_ ?_
 refine pu 1 57 HT_ ?_
 refine pu 2 58 HT_ ?_
 refine pu 3 59 HT_ ?_
 refine pu 4 60 HT_ ?_
 refine pu 6 62 HT_ ?_
 refine pu 7 63 HT_ ?_
 refine pu 8 64 HT_ ?_
 refine pu 9 65 HT_ ?_
 refine pu 10 66 HT_ ?_
 refine pu 12 68 HT_ ?_
 refine pu 13 69 HT_ ?_
 refine pu 14 70 HT_ ?_
 refine pu 15 71 HT_ ?_
 refine pu 16 72 HT_ ?_
 refine pu 17 73 HT_ ?_
 refine tw 5 61 HT_ HW_ hHeld (v := ?_) ?_ ?_; rotate_left
 {
 rintro w' ⟨s0, s1⟩
 go_simp
 with_reducible rfl
 }
 refine tw 11 67 HT_ HW_ hHeld (v := ?_) ?_ ?_; rotate_left
 {
 rintro w' ⟨s0, s1⟩
 go_simp
 with_reducible rfl
 }
 refine on 18 (some 74) HT_ (fun K hK => ?_)
 refine goes_ Try.func16 (by kernel_rfl) rfl #[.int .u8 (rd (rd_L1 l0 x5_1) (ji56)), .int .u8 (rd (rd_L1 l0 x5_1) (ji59)), .int .i64 (wrap64 ((x6_2.length : Int) + x11_3)), .int .i64 (wrap64 ((x6_2.length : Int) + ji53))] (by rfl) rfl rfl (by (try simp only [List.map_toArray, List.map_cons, List.map_nil]); first | done | (simp only [hji53, hji56, hji59]; rfl) | rfl | (simp only [List.length_drop, List.length_take]; rfl)) ?_
 with_reducible refine (interlocklaw02_Ins.calls k3 (rd (rd_L1 l0 x5_1) (ji56)) (rd (rd_L1 l0 x5_1) (ji59)) (wrap64 ((x6_2.length : Int) + x11_3)) (wrap64 ((x6_2.length : Int) + ji53)) t133 t134 t135 t136 _ A62.out).mono ?_
 rintro e w65 ⟨rfl, hb⟩
 refine ⟨_, rfl, ?_⟩
 have n0_ := Aside0.mk (Kd.R_below (by (with_reducible repeat (first | apply Kd.R_alloc | apply Kd.R_drewN | apply Kd.R_drew)); exact HO_6.out) hb)
 have n1_ := Aside0.mk (Kd.R_below (by (with_reducible repeat (first | apply Kd.R_alloc | apply Kd.R_drewN | apply Kd.R_drew)); exact HO_111003.out) hb)
 have n2_ := Aside0.mk (Kd.S_below (by (with_reducible repeat (first | apply Kd.S_alloc | apply Kd.S_drewN | apply Kd.S_drew)); exact HO_111006.out) hb)
 have n3_ := Aside0.mk (blk_below (g := gb106) (o := .cells #[.int .i64 0, .int .i64 0, .int .i64 0, .slice none 0 0, .int .i64 0, .int .i64 0, .slice none 0 0] 26 (0, 0)) (by (with_reducible repeat (first | refine blk_drewN ?_ _ | refine blk_drew ?_ | refine blk_alloc ?_ _)); exact BK106.out) hb)
 have n4_ := Aside0.mk (blk_below (g := gb110) (o := .cells #[.int .i64 2, .int .i64 1, .int .i64 1, .slice Ao7 y107.length co7, .int .i64 1, .int .i64 1, u111006] 26 (0, 0)) (by (with_reducible repeat (first | refine blk_drewN ?_ _ | refine blk_drew ?_ | refine blk_alloc ?_ _)); exact BK110.out) hb)
 have n5_ := Aside0.mk (below_step (by repeat (first | (with_reducible first | exact HB.out | apply below_alloc | apply pw_below_drewN | apply below_drew1 | refine below_set ?_ GE106.out | refine below_set ?_ GE110.out) | exact HB.out)) hb)
 clear HO_6
 clear HO_111003
 clear HO_111006
 clear BK106
 clear BK110
 clear HB
 have HO_6 := n0_
 have HO_111003 := n1_
 have HO_111006 := n2_
 have BK106 := n3_
 have BK110 := n4_
 have HB := n5_
 clear n0_ n1_ n2_ n3_ n4_ n5_
 (try clear hb)
 (try clear hb2)
 (try clear hk)
 (try clear hi)
 refine hK.out _ _ ⟨((HB.out.cell (World.block_lt_of_cell? w _ hw131_0)).trans hw131_0), ((HB.out.cell (World.block_lt_of_cell? w _ hw132_0)).trans hw132_0)⟩ (fun hHeld => ?_)
 clear hK K
 refine nm 74 ?_
 refine on 19 (some 75) HT_ (fun K hK => ?_)
 refine value_ (w1 := ?_) (v := ?_) (by rfl) rfl ?_ ?_
 rotate_left 2
 {
 go_simp
 constructor
 {
 rfl
 }
 {
 rfl
 }
 }
 refine hK.out _ _ ⟨(World.cell?_alloc_lt _ _ _ (World.block_lt_of_cell? _ _ (((HB.out.cell (World.block_lt_of_cell? w _ hw131_0)).trans hw131_0)))).trans (((HB.out.cell (World.block_lt_of_cell? w _ hw131_0)).trans hw131_0)), (World.cell?_alloc_lt _ _ _ (World.block_lt_of_cell? _ _ (((HB.out.cell (World.block_lt_of_cell? w _ hw132_0)).trans hw132_0)))).trans (((HB.out.cell (World.block_lt_of_cell? w _ hw132_0)).trans hw132_0))⟩ (fun hHeld => ?_)
 clear hK K
 refine nm 75 ?_
 refine on 20 (some 76) HT_ (fun K hK => ?_)
 refine Kd.R_append_step k33 (w0 := w) w.heap.size (by rfl) (.tmp 56) (.tmp 75) 28 33 (.agg #[(.int .u8 0), (.int .i64 0), (.int .i64 0), (.int .i64 0)]) 32 rfl Try.underlying28 info33 rfl (by decide) (by omega) u6 x6_3 (⟨t133, t134, t135, t136⟩ : S33) [.int .u8 t133, .int .i64 t134, .int .i64 t135, .int .i64 t136] (fun _ => True) (fun _ => False) rfl rfl ?aP (fun _ hk => hk.elim) ?aF ?aO ?aB ?aS ?aL ?_
 (case aP => exact k33_mkM _ _ _ (⟨t133, t134, t135, t136⟩ : S33))
 (case aB => exact (by repeat (first | (with_reducible first | exact HB.out | apply below_alloc | apply pw_below_drewN | apply below_drew1 | refine below_set ?_ GE106.out | refine below_set ?_ GE110.out) | exact HB.out)))
 (case aF => exact (fun _ _ => trivial))
 (case aO => exact (by (with_reducible repeat (first | apply Kd.R_alloc | apply Kd.R_drewN | apply Kd.R_drew)); exact HO_6.out))
 (case aS => exact (below_size (by repeat (first | (with_reducible first | exact HB.out | apply below_alloc | apply pw_below_drewN | apply below_drew1 | refine below_set ?_ GE106.out | refine below_set ?_ GE110.out) | exact HB.out))))
 (case aL => have := LMc63.out; omega)
 intro v138 w66 ho hb hg hat
 rw [← Ny137.out] at ho
 have n0_ := Aside0.mk (Kd.R_over' (by (with_reducible repeat (first | apply Kd.R_alloc | apply Kd.R_drewN | apply Kd.R_drew)); exact HO_111003.out) (Kd.R_typed (by (with_reducible repeat (first | apply Kd.R_alloc | apply Kd.R_drewN | apply Kd.R_drew)); exact HO_6.out)) (by decide) hg)
 have n1_ := Aside0.mk (Kd.S_after (ok := (fun _ => True)) (by (with_reducible repeat (first | apply Kd.S_alloc | apply Kd.S_drewN | apply Kd.S_drew)); exact Kd.S_mono HO_111006.out (fun _ hk => ⟨trivial, hk⟩)) hg hat)
 have n2_ := Aside0.mk (blk_grown (g := gb106) (o := .cells #[.int .i64 0, .int .i64 0, .int .i64 0, .slice none 0 0, .int .i64 0, .int .i64 0, .slice none 0 0] 26 (0, 0)) (by (with_reducible repeat (first | refine blk_drewN ?_ _ | refine blk_drew ?_ | refine blk_alloc ?_ _)); exact BK106.out) hg (Kd.R_ne HO_6.out BK106.out (by decide)))
 have n3_ := Aside0.mk (blk_grown (g := gb110) (o := .cells #[.int .i64 2, .int .i64 1, .int .i64 1, .slice Ao7 y107.length co7, .int .i64 1, .int .i64 1, u111006] 26 (0, 0)) (by (with_reducible repeat (first | refine blk_drewN ?_ _ | refine blk_drew ?_ | refine blk_alloc ?_ _)); exact BK110.out) hg (Kd.R_ne HO_6.out BK110.out (by decide)))
 have n4_ := Aside0.mk (hb)
 have n5_ := Aside0.mk (ho)
 clear HO_111003
 clear HO_111006
 clear BK106
 clear BK110
 clear HB
 clear HO_6
 have HO_111003 := n0_
 have HO_111006 := n1_
 have BK106 := n2_
 have BK110 := n3_
 have HB := n4_
 have HO139 := n5_
 clear n0_ n1_ n2_ n3_ n4_ n5_
 clear ho hb hg hat
 refine hK.out _ _ ⟨((HB.out.cell (World.block_lt_of_cell? w _ hw131_0)).trans hw131_0), ((HB.out.cell (World.block_lt_of_cell? w _ hw132_0)).trans hw132_0)⟩ (fun hHeld => ?_)
 clear hK K
 refine nm 76 ?_
 refine pu 21 6 HT_ ?_
 refine dn HT_ ?_
 try go_wp2
 go_roundg k3
 case measure => have := HK1.out; have := HK2.out; have := HK3.out; omega
 case rel => exact ⟨(y137), (wrap64 (x11_3 + 1)), (by first | rfl | (simp; done) | (simp [*]; done)), H', ⟨by have := HK1.out; have := HK2.out; have := HK3.out; omega⟩, ⟨by (with_reducible repeat (first | apply Kd.R_alloc | apply Kd.R_drewN | apply Kd.R_drew)); exact HO139.out⟩, ⟨by (with_reducible repeat (first | apply Kd.R_alloc | apply Kd.R_drewN | apply Kd.R_drew)); exact HO_111003.out⟩, ⟨by (with_reducible repeat (first | apply Kd.S_alloc | apply Kd.S_drewN | apply Kd.S_drew)); exact Kd.S_mono HO_111006.out (fun _ hk => hk.2)⟩, ⟨by (with_reducible repeat (first | refine blk_drewN ?_ _ | refine blk_drew ?_ | refine blk_alloc ?_ _)); exact BK106.out⟩, ⟨by (with_reducible repeat (first | refine blk_drewN ?_ _ | refine blk_drew ?_ | refine blk_alloc ?_ _)); exact BK110.out⟩, ⟨by repeat (first | (with_reducible first | exact HB.out | apply below_alloc | apply pw_below_drewN | apply below_drew1 | refine below_set ?_ GE106.out | refine below_set ?_ GE110.out) | exact HB.out)⟩⟩
 }
 {
 rw [if_neg c63] at H
 exact absurd H (by simp)
 }
 }
 {
 rw [if_neg c61] at H
 exact absurd H (by simp)
 }
 }
 {
 rw [if_neg c60] at H
 exact absurd H (by simp)
 }
 }
 {
 rw [if_neg c58] at H
 exact absurd H (by simp)
 }
 }
 {
 rw [if_neg c57] at H
 exact absurd H (by simp)
 }
 }
 {
 rw [if_neg c55] at H
 have c55b0 : decide (x11_3 < ji53) = false := decide_eq_false c55
 clear c55
 by_cases c67 : x111006_1.length < 5864062014805
 {
 rw [if_pos c67] at H
 have LMc67 := Aside0.mk c67
 clear c67
 obtain ⟨y140, hy140⟩ : ∃ y_ : List (List (S33)), y_ = (x111006_1 ++ [x6_3]) := ⟨_, rfl⟩
 replace H : (interlocklaw02_Make.l0 k3 l0 ji3 (wrap64 (x5_1 + 1)) 2 1 1 y107 1 1 y140) = some (r1, r2, r3, r4, r5, r6, r7) := by first | (rw [hy140]; with_reducible exact H) | (have H2_ := (Option.bind_some _ _).symm.trans H; rw [hy140]; with_reducible exact H2_) | (have H2_ := (Option.bind_some _ _).symm.trans H; with_reducible exact H2_) | with_reducible exact H | (rw [hy140]; exact H) | exact H
 have Ny140 := Aside0.mk hy140
 clear hy140
 have H' := Aside0.mk H
 clear H
 have hnb68 := NB110_106.out
 have hnc68 := NB106_110.out
 have hcz69_0 : wr.cell? ⟨gb110, 0, none⟩ = some (.int .i64 2) := (blk_cell BK110.out 0).trans rfl
 have hcz69_1 : wr.cell? ⟨gb110, 1, none⟩ = some (.int .i64 1) := (blk_cell BK110.out 1).trans rfl
 have hcz69_2 : wr.cell? ⟨gb110, 2, none⟩ = some (.int .i64 1) := (blk_cell BK110.out 2).trans rfl
 have hcz69_3 : wr.cell? ⟨gb110, 3, none⟩ = some (.slice Ao7 y107.length co7) := (blk_cell BK110.out 3).trans rfl
 have hcz69_4 : wr.cell? ⟨gb110, 4, none⟩ = some (.int .i64 1) := (blk_cell BK110.out 4).trans rfl
 have hcz69_5 : wr.cell? ⟨gb110, 5, none⟩ = some (.int .i64 1) := (blk_cell BK110.out 5).trans rfl
 have hcz69_6 : wr.cell? ⟨gb110, 6, none⟩ = some (u111006) := (blk_cell BK110.out 6).trans rfl
 have hfz69_0 := blk_frozen BK110.out 0
 have hfz69_1 := blk_frozen BK110.out 1
 have hfz69_2 := blk_frozen BK110.out 2
 have hfz69_3 := blk_frozen BK110.out 3
 have hfz69_4 := blk_frozen BK110.out 4
 have hfz69_5 := blk_frozen BK110.out 5
 have hfz69_6 := blk_frozen BK110.out 6
 obtain ⟨Ao71, co71, eo71⟩ := Kd.R_slice HO_6.out
 subst eo71
 go_wp2_with (first | ((with_reducible refine gate_builtin (b := .append) (xs := #[.tmp 78, .tmp 80]) rfl ?_); at_builtin; refine Kd.S_append (Kd.slice 33 k33) (w0 := w) w.heap.size rfl (.tmp 78) (.tmp 80) 24 28 (.slice none 0 0) 24 rfl Try.underlying24 info28 rfl (by decide) (by omega) u111006 x111006_1 x6_3 [.slice Ao71 x6_3.length co71] (fun _ => True) (fun k_ => some k_ = (.slice Ao71 x6_3.length co71 : Value).ownBlock) rfl rfl ?aP (fun k_ hk_ => ((Kd.R_mono (ok' := fun k_ => ((fun _ => True)) k_ ∧ some k_ ≠ (u111006 : Value).ownBlock) (Kd.R_apart' (HO_6.out) (Kd.S_typed HO_111006.out) (by decide)) (fun k_ hk => ⟨trivial, hk.2⟩))).1 k_ hk_.symm) ?aF ?aO ?aB ?aS ?aL ?_; (case aP => exact Kd.M_row (Kd.R_mono (Kd.R_tight rfl (Kd.R_mono (ok' := fun k_ => ((fun _ => True)) k_ ∧ some k_ ≠ (u111006 : Value).ownBlock) (Kd.R_apart' (HO_6.out) (Kd.S_typed HO_111006.out) (by decide)) (fun k_ hk => ⟨trivial, hk.2⟩))) (fun _ h_ => h_))); (case aB => exact (by repeat (first | (with_reducible first | exact HB.out | apply below_alloc | apply pw_below_drewN | apply below_drew1 | refine below_set ?_ GE106.out | refine below_set ?_ GE110.out) | exact HB.out))); (case aF => exact (fun _ _ => trivial)); (case aO => exact (by (with_reducible repeat (first | apply Kd.S_alloc | apply Kd.S_drewN | apply Kd.S_drew)); exact Kd.S_mono HO_111006.out (fun k_ hk => ⟨trivial, fun e_ => hk e_⟩))); (case aS => exact (below_size (by repeat (first | (with_reducible first | exact HB.out | apply below_alloc | apply pw_below_drewN | apply below_drew1 | refine below_set ?_ GE106.out | refine below_set ?_ GE110.out) | exact HB.out)))); (case aL => have := LMc67.out; omega); intro v141 w70 ho hb hg hat; rw [← Ny140.out] at ho; have n0_ := Aside0.mk (Kd.R_over' (by (with_reducible repeat (first | apply Kd.R_alloc | apply Kd.R_drewN | apply Kd.R_drew)); exact HO_111003.out) (Kd.S_typed (by (with_reducible repeat (first | apply Kd.S_alloc | apply Kd.S_drewN | apply Kd.S_drew)); exact HO_111006.out)) (by decide) hg); have n1_ := Aside0.mk (blk_grown (g := gb106) (o := .cells #[.int .i64 0, .int .i64 0, .int .i64 0, .slice none 0 0, .int .i64 0, .int .i64 0, .slice none 0 0] 26 (0, 0)) (by (with_reducible repeat (first | refine blk_drewN ?_ _ | refine blk_drew ?_ | refine blk_alloc ?_ _)); exact BK106.out) hg (Kd.S_ne HO_111006.out BK106.out (by decide))); have n2_ := Aside0.mk (blk_grown (g := gb110) (o := .cells #[.int .i64 2, .int .i64 1, .int .i64 1, .slice Ao7 y107.length co7, .int .i64 1, .int .i64 1, u111006] 26 (0, 0)) (by (with_reducible repeat (first | refine blk_drewN ?_ _ | refine blk_drew ?_ | refine blk_alloc ?_ _)); exact BK110.out) hg (Kd.S_ne HO_111006.out BK110.out (by decide))); have n3_ := Aside0.mk (hb); have n4_ := Aside0.mk (ho); clear HO_111003; clear BK106; clear BK110; clear HB; clear HO_111006; clear HO_6; have HO_111003 := n0_; have BK106 := n1_; have BK110 := n2_; have HB := n3_; have HO142 := n4_; clear n0_ n1_ n2_ n3_ n4_; clear ho hb hg hat; obtain ⟨Ao72, co72, eo72⟩ := Kd.S_slice HO142.out; subst eo72; have hcz73_0 : w70.cell? ⟨gb110, 0, none⟩ = some (.int .i64 2) := (blk_cell BK110.out 0).trans rfl; have hcz73_1 : w70.cell? ⟨gb110, 1, none⟩ = some (.int .i64 1) := (blk_cell BK110.out 1).trans rfl; have hcz73_2 : w70.cell? ⟨gb110, 2, none⟩ = some (.int .i64 1) := (blk_cell BK110.out 2).trans rfl; have hcz73_3 : w70.cell? ⟨gb110, 3, none⟩ = some (.slice Ao7 y107.length co7) := (blk_cell BK110.out 3).trans rfl; have hcz73_4 : w70.cell? ⟨gb110, 4, none⟩ = some (.int .i64 1) := (blk_cell BK110.out 4).trans rfl; have hcz73_5 : w70.cell? ⟨gb110, 5, none⟩ = some (.int .i64 1) := (blk_cell BK110.out 5).trans rfl; have hcz73_6 : w70.cell? ⟨gb110, 6, none⟩ = some (u111006) := (blk_cell BK110.out 6).trans rfl; have hfz73_0 := blk_frozen BK110.out 0; have hfz73_1 := blk_frozen BK110.out 1; have hfz73_2 := blk_frozen BK110.out 2; have hfz73_3 := blk_frozen BK110.out 3; have hfz73_4 := blk_frozen BK110.out 4; have hfz73_5 := blk_frozen BK110.out 5; have hfz73_6 := blk_frozen BK110.out 6))
 go_roundg k3
 case measure => have := HK1.out; have := HK2.out; have := HK3.out; omega
 case rel => exact ⟨(wrap64 (x5_1 + 1)), (y140), (.slice Ao72 y140.length co72), (by first | rfl | (simp; done) | (simp [*]; done)), H', ⟨by have := HK1.out; have := HK2.out; have := HK3.out; omega⟩, ⟨by (with_reducible repeat (first | apply Kd.R_alloc | apply Kd.R_drewN | apply Kd.R_drew)); exact Kd.R_mono (Kd.R_far (p := ⟨gb110, 6, none⟩) (Kd.R_types HO_111003.out BK110.out (by decide)) (fun _ hk => hk.2) (.slice Ao72 y140.length co72)) (fun _ hk => trivial)⟩, ⟨by (with_reducible repeat (first | apply Kd.S_alloc | apply Kd.S_drewN | apply Kd.S_drew)); exact Kd.S_mono (Kd.S_far (p := ⟨gb110, 6, none⟩) (Kd.S_types HO142.out BK110.out (by decide)) (fun _ hk => hk.2) (.slice Ao72 y140.length co72)) (fun _ hk => trivial)⟩, ⟨by (with_reducible repeat (first | refine blk_drewN ?_ _ | refine blk_drew ?_ | refine blk_alloc ?_ _)); refine blk_far ?_ NB106_110.out _; (with_reducible repeat (first | refine blk_drewN ?_ _ | refine blk_drew ?_ | refine blk_alloc ?_ _)); exact BK106.out⟩, ⟨by (with_reducible repeat (first | refine blk_drewN ?_ _ | refine blk_drew ?_ | refine blk_alloc ?_ _)); refine blk_put (cs := #[.int .i64 2, .int .i64 1, .int .i64 1, .slice Ao7 y107.length co7, .int .i64 1, .int .i64 1, u111006]) ?_ 6 _ rfl; (with_reducible repeat (first | refine blk_drewN ?_ _ | refine blk_drew ?_ | refine blk_alloc ?_ _)); exact BK110.out⟩, ⟨by repeat (first | (with_reducible first | exact HB.out | apply below_alloc | apply pw_below_drewN | apply below_drew1 | refine below_set ?_ GE106.out | refine below_set ?_ GE110.out) | exact HB.out)⟩⟩
 }
 {
 rw [if_neg c67] at H
 exact absurd H (by simp)
 }
 }
 )
 )
 }
 {
 rw [if_neg c52] at H
 exact absurd H (by simp)
 }
 }
 {
 rw [if_neg c51] at H
 have c51b0 : decide (x5_1 < (l0.length : Int)) = false := decide_eq_false c51
 clear c51
 have H' := Aside0.mk H
 clear H
 obtain ⟨Ao74, co74, eo74⟩ := Kd.R_slice HO_6.out
 subst eo74
 go_wp2
 go_loopg [6, 11] k2 (fun kq v6 v11 w' => ∃ (x6_3 : List (S33)) (x11_3 : Int), v11 = .int .i64 x11_3 ∧ Aside0 (interlocklaw02_Make.l3 kq l0 ji3 x5_1 x6_3 0 x11_3 2 1 1 y107 1 1 x111006_1 = some (r1, r2, r3, r4, r5, r6, r7)) ∧ Aside0 (kq ≤ k2) ∧ Aside0 (Kd.R k33 33 w' w.heap.size (fun _ => True) v6 x6_3) ∧ Aside0 (Kd.R (Kd.int .i64) 3 w' w.heap.size (fun _ => True) (.slice Ao7 y107.length co7) y107) ∧ Aside0 (Kd.S (Kd.slice 33 k33) 28 w' w.heap.size (fun k_ => some k_ ≠ (v6 : Value).ownBlock) u111006 x111006_1) ∧ Aside0 (w'.heap[gb106]? = some (.cells #[.int .i64 0, .int .i64 0, .int .i64 0, (.slice none 0 0), .int .i64 0, .int .i64 0, (.slice none 0 0)] 26 (0, 0))) ∧ Aside0 (w'.heap[gb110]? = some (.cells #[.int .i64 2, .int .i64 1, .int .i64 1, (.slice Ao7 y107.length co7), .int .i64 1, .int .i64 1, u111006] 26 (0, 0))) ∧ Aside0 (Below w.heap.size w w'))
 case atStart => exact ⟨(x6_2), (0), (by first | rfl | (simp; done) | (simp [*]; done)), H', ⟨Nat.le_refl _⟩, ⟨by (with_reducible repeat (first | apply Kd.R_alloc | apply Kd.R_drewN | apply Kd.R_drew)); exact HO_6.out⟩, ⟨by (with_reducible repeat (first | apply Kd.R_alloc | apply Kd.R_drewN | apply Kd.R_drew)); exact HO_111003.out⟩, ⟨by (with_reducible repeat (first | apply Kd.S_alloc | apply Kd.S_drewN | apply Kd.S_drew)); exact HO_111006.out⟩, ⟨by (with_reducible repeat (first | refine blk_drewN ?_ _ | refine blk_drew ?_ | refine blk_alloc ?_ _)); exact BK106.out⟩, ⟨by (with_reducible repeat (first | refine blk_drewN ?_ _ | refine blk_drew ?_ | refine blk_alloc ?_ _)); exact BK110.out⟩, ⟨by repeat (first | (with_reducible first | exact HB.out | apply below_alloc | apply pw_below_drewN | apply below_drew1 | refine below_set ?_ GE106.out | refine below_set ?_ GE110.out) | exact HB.out)⟩⟩
 case round => (
 clear H'
 try clear c1
 try clear p1
 try clear q1
 try clear hx1
 try clear c2
 try clear p2
 try clear c3
 try clear c4
 try clear c5
 try clear c6
 try clear p6
 try clear c8
 try clear c9
 try clear c11
 try clear c11b0
 try clear p11
 try clear q11
 try clear hx11
 try clear c12
 try clear c12b0
 try clear c13
 try clear c13b0
 try clear c13b1
 try clear p13
 try clear q13
 try clear hx13
 try clear c14
 try clear c16
 try clear c16b0
 try clear c17
 try clear c17b0
 try clear c20
 try clear c20b0
 try clear c22
 try clear c22b0
 try clear c23
 try clear c23b0
 try clear c25
 try clear c25b0
 try clear c26
 try clear c26b0
 try clear c28
 try clear c32
 try clear c33
 try clear c40
 try clear c40b0
 try clear c42
 try clear c42b0
 try clear c43
 try clear c44
 try clear c45
 try clear c51
 try clear c51b0
 try clear c52
 try clear c52b0
 try clear c55
 try clear c55b0
 try clear c57
 try clear c57b0
 try clear c58
 try clear c58b0
 try clear c60
 try clear c60b0
 try clear c61
 try clear c61b0
 try clear c63
 try clear p64
 try clear c67
 try clear c68
 try clear hcz10_0
 try clear hcz10_1
 try clear hcz10_2
 try clear hcz10_3
 try clear hcz10_4
 try clear hcz10_5
 try clear hcz10_6
 try clear hcz34_0
 try clear hcz34_1
 try clear hcz34_2
 try clear hcz34_3
 try clear hcz34_4
 try clear hcz34_5
 try clear hcz34_6
 try clear hcz38_0
 try clear hcz38_1
 try clear hcz38_2
 try clear hcz38_3
 try clear hcz38_4
 try clear hcz38_5
 try clear hcz38_6
 try clear hcz46_0
 try clear hcz46_1
 try clear hcz46_2
 try clear hcz46_3
 try clear hcz46_4
 try clear hcz46_5
 try clear hcz46_6
 try clear hcz50_0
 try clear hcz50_1
 try clear hcz50_2
 try clear hcz50_3
 try clear hcz50_4
 try clear hcz50_5
 try clear hcz50_6
 try clear hcz69_0
 try clear hcz69_1
 try clear hcz69_2
 try clear hcz69_3
 try clear hcz69_4
 try clear hcz69_5
 try clear hcz69_6
 try clear hcz73_0
 try clear hcz73_1
 try clear hcz73_2
 try clear hcz73_3
 try clear hcz73_4
 try clear hcz73_5
 try clear hcz73_6
 try clear hfz10_0
 try clear hfz10_1
 try clear hfz10_2
 try clear hfz10_3
 try clear hfz10_4
 try clear hfz10_5
 try clear hfz10_6
 try clear hfz34_0
 try clear hfz34_1
 try clear hfz34_2
 try clear hfz34_3
 try clear hfz34_4
 try clear hfz34_5
 try clear hfz34_6
 try clear hfz38_0
 try clear hfz38_1
 try clear hfz38_2
 try clear hfz38_3
 try clear hfz38_4
 try clear hfz38_5
 try clear hfz38_6
 try clear hfz46_0
 try clear hfz46_1
 try clear hfz46_2
 try clear hfz46_3
 try clear hfz46_4
 try clear hfz46_5
 try clear hfz46_6
 try clear hfz50_0
 try clear hfz50_1
 try clear hfz50_2
 try clear hfz50_3
 try clear hfz50_4
 try clear hfz50_5
 try clear hfz50_6
 try clear hfz69_0
 try clear hfz69_1
 try clear hfz69_2
 try clear hfz69_3
 try clear hfz69_4
 try clear hfz69_5
 try clear hfz69_6
 try clear hfz73_0
 try clear hfz73_1
 try clear hfz73_2
 try clear hfz73_3
 try clear hfz73_4
 try clear hfz73_5
 try clear hfz73_6
 try clear hx114_0
 try clear hx115_0
 try clear hx116_0
 try clear hx130_0
 try clear hx131_0
 try clear hx132_0
 try clear p1
 try clear p11
 try clear p114
 try clear p115
 try clear p116
 try clear p13
 try clear p130
 try clear p131
 try clear p132
 try clear p2
 try clear p6
 try clear q1
 try clear q11
 try clear q114
 try clear q115
 try clear q116
 try clear q13
 try clear q130
 try clear q131
 try clear q132
 obtain ⟨x6_3, x11_3, rfl, HA, HK3, HO_6, HO_111003, HO_111006, BK106, BK110, HB⟩ := hrel
 cases gk with
 | zero => exact absurd HA.out (by simp [interlocklaw02_Make.l3])
 | succ k3 => (
 have H := HA.out
 clear HA
 simp only [interlocklaw02_Make.l3] at H
 by_cases c75 : x11_3 < 0
 {
 rw [if_pos c75] at H
 have c75b0 : decide (x11_3 < 0) = true := decide_eq_true c75
 clear c75
 obtain ⟨ji76, hji76⟩ : ∃ j_ : Int, (wrap64 (2 * x11_3)) = j_ := ⟨_, rfl⟩
 replace H : (if 0 ≤ (ji76) then (if (ji76) < 0 then (none) else (none)) else (none)) = some (r1, r2, r3, r4, r5, r6, r7) := by first | (rw [hji76] at H; exact H) | (simp only [hji76] at H ⊢; exact H)
 have hji76w : (IntKind.i64.wrap (2 * x11_3)) = ji76 := (i64_w _).trans hji76
 by_cases c77 : 0 ≤ (ji76)
 {
 rw [if_pos c77] at H
 have c77b0 : decide (0 ≤ (ji76)) = true := decide_eq_true c77
 clear c77
 by_cases c78 : (ji76) < 0
 {
 rw [if_pos c78] at H
 exact absurd H (by simp)
 }
 {
 rw [if_neg c78] at H
 exact absurd H (by simp)
 }
 }
 {
 rw [if_neg c77] at H
 exact absurd H (by simp)
 }
 }
 {
 rw [if_neg c75] at H
 have c75b0 : decide (x11_3 < 0) = false := decide_eq_false c75
 clear c75
 by_cases c79 : x111006_1.length < 5864062014805
 {
 rw [if_pos c79] at H
 have LMc79 := Aside0.mk c79
 clear c79
 obtain ⟨y127, hy127⟩ : ∃ y_ : List (List (S33)), y_ = (x111006_1 ++ [x6_3]) := ⟨_, rfl⟩
 replace H : (interlocklaw02_Make.l0 k3 l0 ji3 (wrap64 (x5_1 + 1)) 2 1 1 y107 1 1 y127) = some (r1, r2, r3, r4, r5, r6, r7) := by first | (rw [hy127]; with_reducible exact H) | (have H2_ := (Option.bind_some _ _).symm.trans H; rw [hy127]; with_reducible exact H2_) | (have H2_ := (Option.bind_some _ _).symm.trans H; with_reducible exact H2_) | with_reducible exact H | (rw [hy127]; exact H) | exact H
 have Ny127 := Aside0.mk hy127
 clear hy127
 have H' := Aside0.mk H
 clear H
 have hnb80 := NB110_106.out
 have hnc80 := NB106_110.out
 have hcz81_0 : wr.cell? ⟨gb110, 0, none⟩ = some (.int .i64 2) := (blk_cell BK110.out 0).trans rfl
 have hcz81_1 : wr.cell? ⟨gb110, 1, none⟩ = some (.int .i64 1) := (blk_cell BK110.out 1).trans rfl
 have hcz81_2 : wr.cell? ⟨gb110, 2, none⟩ = some (.int .i64 1) := (blk_cell BK110.out 2).trans rfl
 have hcz81_3 : wr.cell? ⟨gb110, 3, none⟩ = some (.slice Ao7 y107.length co7) := (blk_cell BK110.out 3).trans rfl
 have hcz81_4 : wr.cell? ⟨gb110, 4, none⟩ = some (.int .i64 1) := (blk_cell BK110.out 4).trans rfl
 have hcz81_5 : wr.cell? ⟨gb110, 5, none⟩ = some (.int .i64 1) := (blk_cell BK110.out 5).trans rfl
 have hcz81_6 : wr.cell? ⟨gb110, 6, none⟩ = some (u111006) := (blk_cell BK110.out 6).trans rfl
 have hfz81_0 := blk_frozen BK110.out 0
 have hfz81_1 := blk_frozen BK110.out 1
 have hfz81_2 := blk_frozen BK110.out 2
 have hfz81_3 := blk_frozen BK110.out 3
 have hfz81_4 := blk_frozen BK110.out 4
 have hfz81_5 := blk_frozen BK110.out 5
 have hfz81_6 := blk_frozen BK110.out 6
 obtain ⟨Ao83, co83, eo83⟩ := Kd.R_slice HO_6.out
 subst eo83
 go_wp2_with (first | ((with_reducible refine gate_builtin (b := .append) (xs := #[.tmp 78, .tmp 80]) rfl ?_); at_builtin; refine Kd.S_append (Kd.slice 33 k33) (w0 := w) w.heap.size rfl (.tmp 78) (.tmp 80) 24 28 (.slice none 0 0) 24 rfl Try.underlying24 info28 rfl (by decide) (by omega) u111006 x111006_1 x6_3 [.slice Ao83 x6_3.length co83] (fun _ => True) (fun k_ => some k_ = (.slice Ao83 x6_3.length co83 : Value).ownBlock) rfl rfl ?aP (fun k_ hk_ => ((Kd.R_mono (ok' := fun k_ => ((fun _ => True)) k_ ∧ some k_ ≠ (u111006 : Value).ownBlock) (Kd.R_apart' (HO_6.out) (Kd.S_typed HO_111006.out) (by decide)) (fun k_ hk => ⟨trivial, hk.2⟩))).1 k_ hk_.symm) ?aF ?aO ?aB ?aS ?aL ?_; (case aP => exact Kd.M_row (Kd.R_mono (Kd.R_tight rfl (Kd.R_mono (ok' := fun k_ => ((fun _ => True)) k_ ∧ some k_ ≠ (u111006 : Value).ownBlock) (Kd.R_apart' (HO_6.out) (Kd.S_typed HO_111006.out) (by decide)) (fun k_ hk => ⟨trivial, hk.2⟩))) (fun _ h_ => h_))); (case aB => exact (by repeat (first | (with_reducible first | exact HB.out | apply below_alloc | apply pw_below_drewN | apply below_drew1 | refine below_set ?_ GE106.out | refine below_set ?_ GE110.out) | exact HB.out))); (case aF => exact (fun _ _ => trivial)); (case aO => exact (by (with_reducible repeat (first | apply Kd.S_alloc | apply Kd.S_drewN | apply Kd.S_drew)); exact Kd.S_mono HO_111006.out (fun k_ hk => ⟨trivial, fun e_ => hk e_⟩))); (case aS => exact (below_size (by repeat (first | (with_reducible first | exact HB.out | apply below_alloc | apply pw_below_drewN | apply below_drew1 | refine below_set ?_ GE106.out | refine below_set ?_ GE110.out) | exact HB.out)))); (case aL => have := LMc79.out; omega); intro v128 w82 ho hb hg hat; rw [← Ny127.out] at ho; have n0_ := Aside0.mk (Kd.R_over' (by (with_reducible repeat (first | apply Kd.R_alloc | apply Kd.R_drewN | apply Kd.R_drew)); exact HO_111003.out) (Kd.S_typed (by (with_reducible repeat (first | apply Kd.S_alloc | apply Kd.S_drewN | apply Kd.S_drew)); exact HO_111006.out)) (by decide) hg); have n1_ := Aside0.mk (blk_grown (g := gb106) (o := .cells #[.int .i64 0, .int .i64 0, .int .i64 0, .slice none 0 0, .int .i64 0, .int .i64 0, .slice none 0 0] 26 (0, 0)) (by (with_reducible repeat (first | refine blk_drewN ?_ _ | refine blk_drew ?_ | refine blk_alloc ?_ _)); exact BK106.out) hg (Kd.S_ne HO_111006.out BK106.out (by decide))); have n2_ := Aside0.mk (blk_grown (g := gb110) (o := .cells #[.int .i64 2, .int .i64 1, .int .i64 1, .slice Ao7 y107.length co7, .int .i64 1, .int .i64 1, u111006] 26 (0, 0)) (by (with_reducible repeat (first | refine blk_drewN ?_ _ | refine blk_drew ?_ | refine blk_alloc ?_ _)); exact BK110.out) hg (Kd.S_ne HO_111006.out BK110.out (by decide))); have n3_ := Aside0.mk (hb); have n4_ := Aside0.mk (ho); clear HO_111003; clear BK106; clear BK110; clear HB; clear HO_111006; clear HO_6; have HO_111003 := n0_; have BK106 := n1_; have BK110 := n2_; have HB := n3_; have HO129 := n4_; clear n0_ n1_ n2_ n3_ n4_; clear ho hb hg hat; obtain ⟨Ao84, co84, eo84⟩ := Kd.S_slice HO129.out; subst eo84; have hcz85_0 : w82.cell? ⟨gb110, 0, none⟩ = some (.int .i64 2) := (blk_cell BK110.out 0).trans rfl; have hcz85_1 : w82.cell? ⟨gb110, 1, none⟩ = some (.int .i64 1) := (blk_cell BK110.out 1).trans rfl; have hcz85_2 : w82.cell? ⟨gb110, 2, none⟩ = some (.int .i64 1) := (blk_cell BK110.out 2).trans rfl; have hcz85_3 : w82.cell? ⟨gb110, 3, none⟩ = some (.slice Ao7 y107.length co7) := (blk_cell BK110.out 3).trans rfl; have hcz85_4 : w82.cell? ⟨gb110, 4, none⟩ = some (.int .i64 1) := (blk_cell BK110.out 4).trans rfl; have hcz85_5 : w82.cell? ⟨gb110, 5, none⟩ = some (.int .i64 1) := (blk_cell BK110.out 5).trans rfl; have hcz85_6 : w82.cell? ⟨gb110, 6, none⟩ = some (u111006) := (blk_cell BK110.out 6).trans rfl; have hfz85_0 := blk_frozen BK110.out 0; have hfz85_1 := blk_frozen BK110.out 1; have hfz85_2 := blk_frozen BK110.out 2; have hfz85_3 := blk_frozen BK110.out 3; have hfz85_4 := blk_frozen BK110.out 4; have hfz85_5 := blk_frozen BK110.out 5; have hfz85_6 := blk_frozen BK110.out 6))
 go_roundg k3
 case measure => have := HK1.out; have := HK2.out; have := HK3.out; omega
 case rel => exact ⟨(wrap64 (x5_1 + 1)), (y127), (.slice Ao84 y127.length co84), (by first | rfl | (simp; done) | (simp [*]; done)), H', ⟨by have := HK1.out; have := HK2.out; have := HK3.out; omega⟩, ⟨by (with_reducible repeat (first | apply Kd.R_alloc | apply Kd.R_drewN | apply Kd.R_drew)); exact Kd.R_mono (Kd.R_far (p := ⟨gb110, 6, none⟩) (Kd.R_types HO_111003.out BK110.out (by decide)) (fun _ hk => hk.2) (.slice Ao84 y127.length co84)) (fun _ hk => trivial)⟩, ⟨by (with_reducible repeat (first | apply Kd.S_alloc | apply Kd.S_drewN | apply Kd.S_drew)); exact Kd.S_mono (Kd.S_far (p := ⟨gb110, 6, none⟩) (Kd.S_types HO129.out BK110.out (by decide)) (fun _ hk => hk.2) (.slice Ao84 y127.length co84)) (fun _ hk => trivial)⟩, ⟨by (with_reducible repeat (first | refine blk_drewN ?_ _ | refine blk_drew ?_ | refine blk_alloc ?_ _)); refine blk_far ?_ NB106_110.out _; (with_reducible repeat (first | refine blk_drewN ?_ _ | refine blk_drew ?_ | refine blk_alloc ?_ _)); exact BK106.out⟩, ⟨by (with_reducible repeat (first | refine blk_drewN ?_ _ | refine blk_drew ?_ | refine blk_alloc ?_ _)); refine blk_put (cs := #[.int .i64 2, .int .i64 1, .int .i64 1, .slice Ao7 y107.length co7, .int .i64 1, .int .i64 1, u111006]) ?_ 6 _ rfl; (with_reducible repeat (first | refine blk_drewN ?_ _ | refine blk_drew ?_ | refine blk_alloc ?_ _)); exact BK110.out⟩, ⟨by repeat (first | (with_reducible first | exact HB.out | apply below_alloc | apply pw_below_drewN | apply below_drew1 | refine below_set ?_ GE106.out | refine below_set ?_ GE110.out) | exact HB.out)⟩⟩
 }
 {
 rw [if_neg c79] at H
 exact absurd H (by simp)
 }
 }
 )
 )
 }
 }
 )
 )
 }
 {
 rw [if_neg c11] at H
 have c11b0 : decide (x5_1 < ji3) = false := decide_eq_false c11
 clear c11
 simp only [Option.some.injEq, Prod.mk.injEq] at H
 obtain ⟨rfl, rfl, rfl, rfl, rfl, rfl, rfl⟩ := H
 have hnb86 := NB110_106.out
 have hnc86 := NB106_110.out
 have hcz87_0 : wr.cell? ⟨gb110, 0, none⟩ = some (.int .i64 2) := (blk_cell BK110.out 0).trans rfl
 have hcz87_1 : wr.cell? ⟨gb110, 1, none⟩ = some (.int .i64 1) := (blk_cell BK110.out 1).trans rfl
 have hcz87_2 : wr.cell? ⟨gb110, 2, none⟩ = some (.int .i64 1) := (blk_cell BK110.out 2).trans rfl
 have hcz87_3 : wr.cell? ⟨gb110, 3, none⟩ = some (.slice Ao7 y107.length co7) := (blk_cell BK110.out 3).trans rfl
 have hcz87_4 : wr.cell? ⟨gb110, 4, none⟩ = some (.int .i64 1) := (blk_cell BK110.out 4).trans rfl
 have hcz87_5 : wr.cell? ⟨gb110, 5, none⟩ = some (.int .i64 1) := (blk_cell BK110.out 5).trans rfl
 have hcz87_6 : wr.cell? ⟨gb110, 6, none⟩ = some (u111006) := (blk_cell BK110.out 6).trans rfl
 have hfz87_0 := blk_frozen BK110.out 0
 have hfz87_1 := blk_frozen BK110.out 1
 have hfz87_2 := blk_frozen BK110.out 2
 have hfz87_3 := blk_frozen BK110.out 3
 have hfz87_4 := blk_frozen BK110.out 4
 have hfz87_5 := blk_frozen BK110.out 5
 have hfz87_6 := blk_frozen BK110.out 6
 have hcz88_0 : wr.cell? ⟨gb106, 0, none⟩ = some (.int .i64 0) := (blk_cell BK106.out 0).trans rfl
 have hcz88_1 : wr.cell? ⟨gb106, 1, none⟩ = some (.int .i64 0) := (blk_cell BK106.out 1).trans rfl
 have hcz88_2 : wr.cell? ⟨gb106, 2, none⟩ = some (.int .i64 0) := (blk_cell BK106.out 2).trans rfl
 have hcz88_3 : wr.cell? ⟨gb106, 3, none⟩ = some (.slice none 0 0) := (blk_cell BK106.out 3).trans rfl
 have hcz88_4 : wr.cell? ⟨gb106, 4, none⟩ = some (.int .i64 0) := (blk_cell BK106.out 4).trans rfl
 have hcz88_5 : wr.cell? ⟨gb106, 5, none⟩ = some (.int .i64 0) := (blk_cell BK106.out 5).trans rfl
 have hcz88_6 : wr.cell? ⟨gb106, 6, none⟩ = some (.slice none 0 0) := (blk_cell BK106.out 6).trans rfl
 have hfz88_0 := blk_frozen BK106.out 0
 have hfz88_1 := blk_frozen BK106.out 1
 have hfz88_2 := blk_frozen BK106.out 2
 have hfz88_3 := blk_frozen BK106.out 3
 have hfz88_4 := blk_frozen BK106.out 4
 have hfz88_5 := blk_frozen BK106.out 5
 have hfz88_6 := blk_frozen BK106.out 6
 obtain ⟨Ao89, co89, eo89⟩ := Kd.S_slice HO_111006.out
 subst eo89
 go_wp2
 refine bodyPost_ret (results_cell_row rfl _ _ gb106 26 #[.int .i64 2, .int .i64 1, .int .i64 1, .slice Ao7 y107.length co7, .int .i64 1, .int .i64 1, .slice Ao89 x111006_1.length co89] (0, 0) _ rfl (by (with_reducible repeat (first | refine blk_drewN ?_ _ | refine blk_drew ?_ | refine blk_alloc ?_ _)); refine blk_put (cs := #[.int .i64 2, .int .i64 1, .int .i64 1, .slice Ao7 y107.length co7, .int .i64 1, .int .i64 1, .slice none 0 0]) ?_ 6 _ rfl; (with_reducible repeat (first | refine blk_drewN ?_ _ | refine blk_drew ?_ | refine blk_alloc ?_ _)); refine blk_put (cs := #[.int .i64 2, .int .i64 1, .int .i64 1, .slice Ao7 y107.length co7, .int .i64 1, .int .i64 0, .slice none 0 0]) ?_ 5 _ rfl; (with_reducible repeat (first | refine blk_drewN ?_ _ | refine blk_drew ?_ | refine blk_alloc ?_ _)); refine blk_put (cs := #[.int .i64 2, .int .i64 1, .int .i64 1, .slice Ao7 y107.length co7, .int .i64 0, .int .i64 0, .slice none 0 0]) ?_ 4 _ rfl; (with_reducible repeat (first | refine blk_drewN ?_ _ | refine blk_drew ?_ | refine blk_alloc ?_ _)); refine blk_put (cs := #[.int .i64 2, .int .i64 1, .int .i64 1, .slice none 0 0, .int .i64 0, .int .i64 0, .slice none 0 0]) ?_ 3 _ rfl; (with_reducible repeat (first | refine blk_drewN ?_ _ | refine blk_drew ?_ | refine blk_alloc ?_ _)); refine blk_put (cs := #[.int .i64 2, .int .i64 1, .int .i64 0, .slice none 0 0, .int .i64 0, .int .i64 0, .slice none 0 0]) ?_ 2 _ rfl; (with_reducible repeat (first | refine blk_drewN ?_ _ | refine blk_drew ?_ | refine blk_alloc ?_ _)); refine blk_put (cs := #[.int .i64 2, .int .i64 0, .int .i64 0, .slice none 0 0, .int .i64 0, .int .i64 0, .slice none 0 0]) ?_ 1 _ rfl; (with_reducible repeat (first | refine blk_drewN ?_ _ | refine blk_drew ?_ | refine blk_alloc ?_ _)); refine blk_put (cs := #[.int .i64 0, .int .i64 0, .int .i64 0, .slice none 0 0, .int .i64 0, .int .i64 0, .slice none 0 0]) ?_ 0 _ rfl; (with_reducible repeat (first | refine blk_drewN ?_ _ | refine blk_drew ?_ | refine blk_alloc ?_ _)); exact BK106.out) Try.underlying26 rfl (by kernel_rfl)) rfl ?_
 exact ⟨_, _, by first | rfl | (simp [errW_none, errW_some] <;> rfl) | (simp only [← hji2, ← hji3]; first | rfl | (simp [errW_none, errW_some] <;> rfl)) | (simp [*, errW_none, errW_some] <;> rfl), by (with_reducible repeat (first | apply Kd.R_alloc | apply Kd.R_drewN | apply Kd.R_drew)); exact Kd.R_mono (Kd.R_far (p := ⟨gb106, 6, none⟩) (Kd.R_far (p := ⟨gb106, 5, none⟩) (Kd.R_far (p := ⟨gb106, 4, none⟩) (Kd.R_far (p := ⟨gb106, 3, none⟩) (Kd.R_far (p := ⟨gb106, 2, none⟩) (Kd.R_far (p := ⟨gb106, 1, none⟩) (Kd.R_far (p := ⟨gb106, 0, none⟩) (Kd.R_types HO_111003.out BK106.out (by decide)) (fun _ hk => hk.2) (.int .i64 2)) (fun _ hk => hk.2) (.int .i64 1)) (fun _ hk => hk.2) (.int .i64 1)) (fun _ hk => hk.2) (.slice Ao7 y107.length co7)) (fun _ hk => hk.2) (.int .i64 1)) (fun _ hk => hk.2) (.int .i64 1)) (fun _ hk => hk.2) (.slice Ao89 x111006_1.length co89)) (fun _ hk => trivial), by (with_reducible repeat (first | apply Kd.S_alloc | apply Kd.S_drewN | apply Kd.S_drew)); exact Kd.S_mono (Kd.S_far (p := ⟨gb106, 6, none⟩) (Kd.S_far (p := ⟨gb106, 5, none⟩) (Kd.S_far (p := ⟨gb106, 4, none⟩) (Kd.S_far (p := ⟨gb106, 3, none⟩) (Kd.S_far (p := ⟨gb106, 2, none⟩) (Kd.S_far (p := ⟨gb106, 1, none⟩) (Kd.S_far (p := ⟨gb106, 0, none⟩) (Kd.S_types HO_111006.out BK106.out (by decide)) (fun _ hk => hk.2) (.int .i64 2)) (fun _ hk => hk.2) (.int .i64 1)) (fun _ hk => hk.2) (.int .i64 1)) (fun _ hk => hk.2) (.slice Ao7 y107.length co7)) (fun _ hk => hk.2) (.int .i64 1)) (fun _ hk => hk.2) (.int .i64 1)) (fun _ hk => hk.2) (.slice Ao89 x111006_1.length co89)) (fun _ hk => trivial), by repeat (first | (with_reducible first | exact HB.out | apply below_alloc | apply pw_below_drewN | apply below_drew1 | refine below_set ?_ GE106.out | refine below_set ?_ GE110.out) | exact HB.out)⟩
 }
 )
 )
end Go.Proofs.Yticdodbnjlnjlaa.P
