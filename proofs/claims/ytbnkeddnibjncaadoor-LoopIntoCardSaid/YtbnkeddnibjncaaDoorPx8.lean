-- written by this project's xprint.py (a turn of the kit's printer; its own texts among them)
import Derived.Test.YtbnkeddnibjncaaDoorPx0
import Derived.Test.YtbnkeddnibjncaaDoorPx1
import Derived.Test.YtbnkeddnibjncaaDoorPx4
import Derived.Test.YtbnkeddnibjncaaDoorPx6
import Derived.Test.YtbnkeddnibjncaaDoorPx7
namespace Go.Proofs.YtbnkeddnibjncaaDoor.P
open Go.RowKit Go.Proofs.YtbnkeddnibjncaaDoorW.PrintWords Go.Proofs.YtbnkeddnibjncaaDoorW.PrintLast Go.Proofs.YtbnkeddnibjncaaDoorW.PrintMore
attribute [local go_sem] max2_int min2_int max_two min_two max_three min_three max_four min_four   -- for this text's walks alone
attribute [local irreducible] Calls
set_option linter.unusedVariables false
set_option linter.unusedSimpArgs false

/-! ### interlocklaw12_LoopInto: function 5 -/
mutual
def interlocklaw12_LoopInto.l0 : Nat → List (List Int) → List (S35) → List Int → List Bool → List (List Int) → Int → Option (Bool)
  | 0, _, _, _, _, _, _ => none
  | k + 1, x5, x6, x7, x8, x9, x10 => if x10 < (x6.length : Int) then (if 0 ≤ x10 then (interlocklaw12_LoopInto.l1 k x5 x6 x7 x8 x9 x10 ((rd_T35 x6 x10).f1) 0) else (none)) else ((interlocklaw12_known.f k).bind fun t238 => (some t238))
def interlocklaw12_LoopInto.l1 : Nat → List (List Int) → List (S35) → List Int → List Bool → List (List Int) → Int → List Int → Int → Option (Bool)
  | 0, _, _, _, _, _, _, _, _ => none
  | k + 1, x5, x6, x7, x8, x9, x10, x11, x12 => if x12 < (x11.length : Int) then (if 0 ≤ x12 then (if (rd x11 x12) < 0 then (none) else (if (rd x11 x12) ≥ (x5.length : Int) then (none) else (if 0 ≤ (rd x11 x12) then (if (rd x11 x12) < (x8.length : Int) then (if (rdOf false x8 (rd x11 x12) = true) then (if (rd x11 x12) < (x7.length : Int) then (if 0 ≤ x10 then (if x10 < (x6.length : Int) then ((interlockref01_Has.f k (rd x7 (rd x11 x12)) ((rd_T35 x6 x10).f0)).bind fun t251 => (if t251 = true then (if x12 > 0 then (if 0 ≤ (wrap64 (x12 - 1)) then (if (wrap64 (x12 - 1)) < (x11.length : Int) then (interlocklaw12_LoopInto.j2 k x5 x6 x7 x8 x9 x10 x11 x12 (decide ((rd x11 x12) ≤ (rd x11 (wrap64 (x12 - 1)))))) else (none)) else (none)) else (interlocklaw12_LoopInto.j2 k x5 x6 x7 x8 x9 x10 x11 x12 false)) else (none))) else (none)) else (none)) else (none)) else (none)) else (none)) else (none)))) else (none)) else (if 0 ≤ x10 then (if x10 < (x6.length : Int) then ((interlocklaw12_has.f k x11 ((rd_T35 x6 x10).f0)).bind fun t241 => (if t241 = true then (if x10 > 0 then (if 0 ≤ (wrap64 (x10 - 1)) then (if (wrap64 (x10 - 1)) < (x6.length : Int) then (if ((rd_T35 x6 x10).f0) ≤ ((rd_T35 x6 (wrap64 (x10 - 1))).f0) then (none) else (interlocklaw12_LoopInto.l0 k x5 x6 x7 x8 x9 (wrap64 (x10 + 1)))) else (none)) else (none)) else (interlocklaw12_LoopInto.l0 k x5 x6 x7 x8 x9 (wrap64 (x10 + 1)))) else (none))) else (none)) else (none))
def interlocklaw12_LoopInto.j2 : Nat → List (List Int) → List (S35) → List Int → List Bool → List (List Int) → Int → List Int → Int → Bool → Option (Bool)
  | 0, _, _, _, _, _, _, _, _, _ => none
  | k + 1, x5, x6, x7, x8, x9, x10, x11, x12, x97 => if x97 = true then (none) else (interlocklaw12_LoopInto.l2 k x5 x6 x7 x8 x9 x10 x11 x12 0)
def interlocklaw12_LoopInto.l2 : Nat → List (List Int) → List (S35) → List Int → List Bool → List (List Int) → Int → List Int → Int → Int → Option (Bool)
  | 0, _, _, _, _, _, _, _, _, _ => none
  | k + 1, x5, x6, x7, x8, x9, x10, x11, x12, x13 => if 0 ≤ x12 then (if x12 < (x11.length : Int) then (if 0 ≤ (rd x11 x12) then (if (rd x11 x12) < (x9.length : Int) then (if x13 < ((rd_L1 x9 (rd x11 x12)).length : Int) then (if 0 ≤ x10 then (if x10 < (x6.length : Int) then (interlocklaw12_LoopInto.j4 k x5 x6 x7 x8 x9 x10 x11 x12 x13 ((rd x11 x12) != ((rd_T35 x6 x10).f0))) else (none)) else (none)) else (interlocklaw12_LoopInto.j4 k x5 x6 x7 x8 x9 x10 x11 x12 x13 false)) else (none)) else (none)) else (none)) else (none)
def interlocklaw12_LoopInto.j4 : Nat → List (List Int) → List (S35) → List Int → List Bool → List (List Int) → Int → List Int → Int → Int → Bool → Option (Bool)
  | 0, _, _, _, _, _, _, _, _, _, _ => none
  | k + 1, x5, x6, x7, x8, x9, x10, x11, x12, x13, x119 => if x119 = true then (if 0 ≤ x12 then (if x12 < (x11.length : Int) then (if 0 ≤ (rd x11 x12) then (if (rd x11 x12) < (x9.length : Int) then (if 0 ≤ x13 then (if x13 < ((rd_L1 x9 (rd x11 x12)).length : Int) then (if 0 ≤ (rd (rd_L1 x9 (rd x11 x12)) x13) then (if (rd (rd_L1 x9 (rd x11 x12)) x13) < (x8.length : Int) then (if rdOf false x8 (rd (rd_L1 x9 (rd x11 x12)) x13) = true then ((interlocklaw12_has.f k x11 (rd (rd_L1 x9 (rd x11 x12)) x13)).bind fun t265 => (if t265 = true then (interlocklaw12_LoopInto.l2 k x5 x6 x7 x8 x9 x10 x11 x12 (wrap64 (x13 + 1))) else (none))) else (interlocklaw12_LoopInto.l2 k x5 x6 x7 x8 x9 x10 x11 x12 (wrap64 (x13 + 1)))) else (none)) else (none)) else (none)) else (none)) else (none)) else (none)) else (none)) else (none)) else (interlocklaw12_LoopInto.l1 k x5 x6 x7 x8 x9 x10 x11 (wrap64 (x12 + 1)))
end
def interlocklaw12_LoopInto.f (k : Nat) (a0 : Int) (l1 : List Int) : Option (Bool) := (interlocklaw10_Graph.f k a0 l1).bind fun t223 => ((loop_Of.f k t223).bind fun t226 => ((interlockref10_Doms.f k t223).bind fun t229 => ((interlockref10_Reach.f k t223).bind fun t232 => ((interlockref10_Preds.f k t223).bind fun t235 => (interlocklaw12_LoopInto.l0 k t223 t226 t229 t232 t235 0)))))
theorem interlocklaw12_LoopInto.mono_l : ∀ k, (∀ y0 y1 y2 y3 y4 y5, LeO (interlocklaw12_LoopInto.l0 k y0 y1 y2 y3 y4 y5) (interlocklaw12_LoopInto.l0 (k + 1) y0 y1 y2 y3 y4 y5)) ∧ (∀ y0 y1 y2 y3 y4 y5 y6 y7, LeO (interlocklaw12_LoopInto.l1 k y0 y1 y2 y3 y4 y5 y6 y7) (interlocklaw12_LoopInto.l1 (k + 1) y0 y1 y2 y3 y4 y5 y6 y7)) ∧ (∀ y0 y1 y2 y3 y4 y5 y6 y7 y8, LeO (interlocklaw12_LoopInto.j2 k y0 y1 y2 y3 y4 y5 y6 y7 y8) (interlocklaw12_LoopInto.j2 (k + 1) y0 y1 y2 y3 y4 y5 y6 y7 y8)) ∧ (∀ y0 y1 y2 y3 y4 y5 y6 y7 y8, LeO (interlocklaw12_LoopInto.l2 k y0 y1 y2 y3 y4 y5 y6 y7 y8) (interlocklaw12_LoopInto.l2 (k + 1) y0 y1 y2 y3 y4 y5 y6 y7 y8)) ∧ (∀ y0 y1 y2 y3 y4 y5 y6 y7 y8 y9, LeO (interlocklaw12_LoopInto.j4 k y0 y1 y2 y3 y4 y5 y6 y7 y8 y9) (interlocklaw12_LoopInto.j4 (k + 1) y0 y1 y2 y3 y4 y5 y6 y7 y8 y9))
  | 0 => ⟨fun _ _ _ _ _ _ r h => by simp [interlocklaw12_LoopInto.l0] at h, fun _ _ _ _ _ _ _ _ r h => by simp [interlocklaw12_LoopInto.l1] at h, fun _ _ _ _ _ _ _ _ _ r h => by simp [interlocklaw12_LoopInto.j2] at h, fun _ _ _ _ _ _ _ _ _ r h => by simp [interlocklaw12_LoopInto.l2] at h, fun _ _ _ _ _ _ _ _ _ _ r h => by simp [interlocklaw12_LoopInto.j4] at h⟩
  | k + 1 => by
    obtain ⟨ih0, ih1, ih2, ih3, ih4⟩ := interlocklaw12_LoopInto.mono_l k
    refine ⟨?_, ?_, ?_, ?_, ?_⟩
    · intro y0 y1 y2 y3 y4 y5
      unfold interlocklaw12_LoopInto.l0
      repeat' first
      | (with_reducible exact ih0 _ _ _ _ _ _)
      | (with_reducible exact ih1 _ _ _ _ _ _ _ _)
      | (with_reducible exact ih2 _ _ _ _ _ _ _ _ _)
      | (with_reducible exact ih3 _ _ _ _ _ _ _ _ _)
      | (with_reducible exact ih4 _ _ _ _ _ _ _ _ _ _)
      | (with_reducible exact interlocklaw10_Graph.mono _ _ _)
      | (with_reducible exact interlocklaw12_has.mono _ _ _)
      | (with_reducible exact interlocklaw12_known.mono _)
      | (with_reducible exact interlockref01_Has.mono _ _ _)
      | (with_reducible exact interlockref10_Doms.mono _ _)
      | (with_reducible exact interlockref10_Preds.mono _ _)
      | (with_reducible exact interlockref10_Reach.mono _ _)
      | (with_reducible exact loop_Of.mono _ _)
      | (with_reducible exact LeO.refl _)
      | (with_reducible exact LeO.none _)
      | (with_reducible refine LeO.ite ?_ ?_)
      | (with_reducible refine LeO.bind ?_ (fun _ => ?_))
      | exact ih0 _ _ _ _ _ _
      | exact ih1 _ _ _ _ _ _ _ _
      | exact ih2 _ _ _ _ _ _ _ _ _
      | exact ih3 _ _ _ _ _ _ _ _ _
      | exact ih4 _ _ _ _ _ _ _ _ _ _
      | exact LeO.none _
      | refine LeO.ite ?_ ?_
      | refine LeO.bind ?_ (fun _ => ?_)
    · intro y0 y1 y2 y3 y4 y5 y6 y7
      unfold interlocklaw12_LoopInto.l1
      repeat' first
      | (with_reducible exact ih0 _ _ _ _ _ _)
      | (with_reducible exact ih1 _ _ _ _ _ _ _ _)
      | (with_reducible exact ih2 _ _ _ _ _ _ _ _ _)
      | (with_reducible exact ih3 _ _ _ _ _ _ _ _ _)
      | (with_reducible exact ih4 _ _ _ _ _ _ _ _ _ _)
      | (with_reducible exact interlocklaw10_Graph.mono _ _ _)
      | (with_reducible exact interlocklaw12_has.mono _ _ _)
      | (with_reducible exact interlocklaw12_known.mono _)
      | (with_reducible exact interlockref01_Has.mono _ _ _)
      | (with_reducible exact interlockref10_Doms.mono _ _)
      | (with_reducible exact interlockref10_Preds.mono _ _)
      | (with_reducible exact interlockref10_Reach.mono _ _)
      | (with_reducible exact loop_Of.mono _ _)
      | (with_reducible exact LeO.refl _)
      | (with_reducible exact LeO.none _)
      | (with_reducible refine LeO.ite ?_ ?_)
      | (with_reducible refine LeO.bind ?_ (fun _ => ?_))
      | exact ih0 _ _ _ _ _ _
      | exact ih1 _ _ _ _ _ _ _ _
      | exact ih2 _ _ _ _ _ _ _ _ _
      | exact ih3 _ _ _ _ _ _ _ _ _
      | exact ih4 _ _ _ _ _ _ _ _ _ _
      | exact LeO.none _
      | refine LeO.ite ?_ ?_
      | refine LeO.bind ?_ (fun _ => ?_)
    · intro y0 y1 y2 y3 y4 y5 y6 y7 y8
      unfold interlocklaw12_LoopInto.j2
      repeat' first
      | (with_reducible exact ih0 _ _ _ _ _ _)
      | (with_reducible exact ih1 _ _ _ _ _ _ _ _)
      | (with_reducible exact ih2 _ _ _ _ _ _ _ _ _)
      | (with_reducible exact ih3 _ _ _ _ _ _ _ _ _)
      | (with_reducible exact ih4 _ _ _ _ _ _ _ _ _ _)
      | (with_reducible exact interlocklaw10_Graph.mono _ _ _)
      | (with_reducible exact interlocklaw12_has.mono _ _ _)
      | (with_reducible exact interlocklaw12_known.mono _)
      | (with_reducible exact interlockref01_Has.mono _ _ _)
      | (with_reducible exact interlockref10_Doms.mono _ _)
      | (with_reducible exact interlockref10_Preds.mono _ _)
      | (with_reducible exact interlockref10_Reach.mono _ _)
      | (with_reducible exact loop_Of.mono _ _)
      | (with_reducible exact LeO.refl _)
      | (with_reducible exact LeO.none _)
      | (with_reducible refine LeO.ite ?_ ?_)
      | (with_reducible refine LeO.bind ?_ (fun _ => ?_))
      | exact ih0 _ _ _ _ _ _
      | exact ih1 _ _ _ _ _ _ _ _
      | exact ih2 _ _ _ _ _ _ _ _ _
      | exact ih3 _ _ _ _ _ _ _ _ _
      | exact ih4 _ _ _ _ _ _ _ _ _ _
      | exact LeO.none _
      | refine LeO.ite ?_ ?_
      | refine LeO.bind ?_ (fun _ => ?_)
    · intro y0 y1 y2 y3 y4 y5 y6 y7 y8
      unfold interlocklaw12_LoopInto.l2
      repeat' first
      | (with_reducible exact ih0 _ _ _ _ _ _)
      | (with_reducible exact ih1 _ _ _ _ _ _ _ _)
      | (with_reducible exact ih2 _ _ _ _ _ _ _ _ _)
      | (with_reducible exact ih3 _ _ _ _ _ _ _ _ _)
      | (with_reducible exact ih4 _ _ _ _ _ _ _ _ _ _)
      | (with_reducible exact interlocklaw10_Graph.mono _ _ _)
      | (with_reducible exact interlocklaw12_has.mono _ _ _)
      | (with_reducible exact interlocklaw12_known.mono _)
      | (with_reducible exact interlockref01_Has.mono _ _ _)
      | (with_reducible exact interlockref10_Doms.mono _ _)
      | (with_reducible exact interlockref10_Preds.mono _ _)
      | (with_reducible exact interlockref10_Reach.mono _ _)
      | (with_reducible exact loop_Of.mono _ _)
      | (with_reducible exact LeO.refl _)
      | (with_reducible exact LeO.none _)
      | (with_reducible refine LeO.ite ?_ ?_)
      | (with_reducible refine LeO.bind ?_ (fun _ => ?_))
      | exact ih0 _ _ _ _ _ _
      | exact ih1 _ _ _ _ _ _ _ _
      | exact ih2 _ _ _ _ _ _ _ _ _
      | exact ih3 _ _ _ _ _ _ _ _ _
      | exact ih4 _ _ _ _ _ _ _ _ _ _
      | exact LeO.none _
      | refine LeO.ite ?_ ?_
      | refine LeO.bind ?_ (fun _ => ?_)
    · intro y0 y1 y2 y3 y4 y5 y6 y7 y8 y9
      unfold interlocklaw12_LoopInto.j4
      repeat' first
      | (with_reducible exact ih0 _ _ _ _ _ _)
      | (with_reducible exact ih1 _ _ _ _ _ _ _ _)
      | (with_reducible exact ih2 _ _ _ _ _ _ _ _ _)
      | (with_reducible exact ih3 _ _ _ _ _ _ _ _ _)
      | (with_reducible exact ih4 _ _ _ _ _ _ _ _ _ _)
      | (with_reducible exact interlocklaw10_Graph.mono _ _ _)
      | (with_reducible exact interlocklaw12_has.mono _ _ _)
      | (with_reducible exact interlocklaw12_known.mono _)
      | (with_reducible exact interlockref01_Has.mono _ _ _)
      | (with_reducible exact interlockref10_Doms.mono _ _)
      | (with_reducible exact interlockref10_Preds.mono _ _)
      | (with_reducible exact interlockref10_Reach.mono _ _)
      | (with_reducible exact loop_Of.mono _ _)
      | (with_reducible exact LeO.refl _)
      | (with_reducible exact LeO.none _)
      | (with_reducible refine LeO.ite ?_ ?_)
      | (with_reducible refine LeO.bind ?_ (fun _ => ?_))
      | exact ih0 _ _ _ _ _ _
      | exact ih1 _ _ _ _ _ _ _ _
      | exact ih2 _ _ _ _ _ _ _ _ _
      | exact ih3 _ _ _ _ _ _ _ _ _
      | exact ih4 _ _ _ _ _ _ _ _ _ _
      | exact LeO.none _
      | refine LeO.ite ?_ ?_
      | refine LeO.bind ?_ (fun _ => ?_)
theorem interlocklaw12_LoopInto.mono : ∀ a0 a1 k, LeO (interlocklaw12_LoopInto.f k a0 a1) (interlocklaw12_LoopInto.f (k + 1) a0 a1) := by
  intro a0 a1 k
  obtain ⟨ih0, ih1, ih2, ih3, ih4⟩ := interlocklaw12_LoopInto.mono_l k
  unfold interlocklaw12_LoopInto.f
  repeat' first
      | (with_reducible exact ih0 _ _ _ _ _ _)
      | (with_reducible exact ih1 _ _ _ _ _ _ _ _)
      | (with_reducible exact ih2 _ _ _ _ _ _ _ _ _)
      | (with_reducible exact ih3 _ _ _ _ _ _ _ _ _)
      | (with_reducible exact ih4 _ _ _ _ _ _ _ _ _ _)
      | (with_reducible exact interlocklaw10_Graph.mono _ _ _)
      | (with_reducible exact interlocklaw12_has.mono _ _ _)
      | (with_reducible exact interlocklaw12_known.mono _)
      | (with_reducible exact interlockref01_Has.mono _ _ _)
      | (with_reducible exact interlockref10_Doms.mono _ _)
      | (with_reducible exact interlockref10_Preds.mono _ _)
      | (with_reducible exact interlockref10_Reach.mono _ _)
      | (with_reducible exact loop_Of.mono _ _)
      | (with_reducible exact LeO.refl _)
      | (with_reducible exact LeO.none _)
      | (with_reducible refine LeO.ite ?_ ?_)
      | (with_reducible refine LeO.bind ?_ (fun _ => ?_))
      | exact ih0 _ _ _ _ _ _
      | exact ih1 _ _ _ _ _ _ _ _
      | exact ih2 _ _ _ _ _ _ _ _ _
      | exact ih3 _ _ _ _ _ _ _ _ _
      | exact ih4 _ _ _ _ _ _ _ _ _ _
      | exact LeO.none _
      | refine LeO.ite ?_ ?_
      | refine LeO.bind ?_ (fun _ => ?_)
def interlocklaw12_LoopInto.T13 : Bool × List (List Nat × List Nat) := (true, [([], []), ([], []), ([0, 1], [0, 1]), ([2], [2]), ([3], [3]), ([4], [4]), ([5], [5]), ([5], [5]), ([6, 7, 5], [5, 6, 7]), ([8, 5], [5, 8]), ([5], [5]), ([10, 5], [5, 10]), ([9, 11, 5], [5, 9, 11]), ([5, 12], [5, 12]), ([13, 5], [13]), ([14], [14]), ([14], [14]), ([14], [14]), ([16, 17, 14], [14, 16, 17]), ([18, 14], [14, 18]), ([15, 19, 14], [14, 15, 19]), ([20, 14], [14, 20]), ([21, 14], [14, 21]), ([14, 22], [14, 22]), ([23, 14], [23]), ([24], [24]), ([24], [24]), ([24], [24]), ([26, 27, 24], [24, 26, 27]), ([28, 24], [24, 28]), ([25, 29, 24], [24, 25, 29]), ([30, 24], [24, 30]), ([24], [24]), ([24], [24]), ([32, 33, 24], [24, 32, 33]), ([34, 24], [24, 34]), ([35, 24], [24, 35]), ([31, 36, 24, 24], [24, 31, 36]), ([37, 24], [24, 37]), ([24, 38], [24, 38]), ([39, 37], [39]), ([40], [40]), ([41, 40], [40, 41]), ([42, 40, 40], [40, 42]), ([43], [43]), ([43], [43]), ([44, 45, 43], [43, 44, 45]), ([46, 43], [43, 46]), ([43], [43]), ([43], [43]), ([49, 43], [43, 49]), ([48, 50, 43], [43, 48, 50]), ([51, 43], [43, 51]), ([47, 52, 43], [43, 47, 52]), ([43, 53, 40], [40, 43, 53]), ([40, 54], [40, 54])])
def interlocklaw12_LoopInto.B13 : List Nat := [0, 0, 3, 7, 15, 31, 63, 63, 255, 511, 63, 1087, 4095, 8191, 16383, 32767, 32767, 32767, 229375, 491519, 1048575, 2097151, 4194303, 8388607, 16777215, 33554431, 33554431, 33554431, 234881023, 503316479, 1073741823, 2147483647, 33554431, 33554431, 12918456319, 30098325503, 64458063871, 137438953471, 274877906943, 549755813887, 1099511627775, 2199023255551, 4398046511103, 8796093022207, 17592186044415, 17592186044415, 70368744177663, 140737488355327, 17592186044415, 17592186044415, 580542139465727, 1987917023019007, 4239716836704255, 9007199254740991, 18014398509481983, 36028797018963967]
theorem interlocklaw12_LoopInto.tab13 : rtab .any (opsOf Tryd.f5 13) = interlocklaw12_LoopInto.T13 := by kernel_rfl
theorem interlocklaw12_LoopInto.bits13 : waitsOk interlocklaw12_LoopInto.T13.2 interlocklaw12_LoopInto.B13 = true := by kernel_rfl
def interlocklaw12_LoopInto.T16 : Bool × List (List Nat × List Nat) := (true, [([], []), ([], []), ([], []), ([], []), ([2, 3], [2, 3]), ([4], [4]), ([1, 5], [1, 5]), ([6], [6]), ([7], [7]), ([0, 8], [0, 8]), ([9], [9]), ([10], [10]), ([10], [10]), ([11, 12, 10], [10, 11, 12]), ([13, 10], [10, 13]), ([10], [10]), ([10], [10]), ([15, 16, 10], [10, 15, 16]), ([17, 10], [10, 17]), ([18, 10], [10, 18]), ([14, 19, 10], [10, 14, 19]), ([10, 20], [10, 20])])
def interlocklaw12_LoopInto.B16 : List Nat := [0, 0, 0, 0, 12, 28, 62, 126, 254, 511, 1023, 2047, 2047, 8191, 16383, 2047, 2047, 100351, 231423, 493567, 1048575, 2097151]
theorem interlocklaw12_LoopInto.tab16 : rtab .any (opsOf Tryd.f5 16) = interlocklaw12_LoopInto.T16 := by kernel_rfl
theorem interlocklaw12_LoopInto.bits16 : waitsOk interlocklaw12_LoopInto.T16.2 interlocklaw12_LoopInto.B16 = true := by kernel_rfl
def interlocklaw12_LoopInto.T20 : Bool × List (List Nat × List Nat) := (true, [([], []), ([], []), ([], []), ([1, 2], [1, 2]), ([3], [3]), ([4], [4]), ([0, 5], [0, 5]), ([6], [6]), ([7, 6], [7]), ([8], [8]), ([9, 8], [8, 9]), ([10, 8, 8], [8, 10]), ([11], [11]), ([11], [11]), ([12, 13, 11], [11, 12, 13]), ([14, 11], [11, 14]), ([15, 11], [11, 15]), ([11], [11]), ([11], [11]), ([18, 11], [11, 18]), ([17, 19, 11], [11, 17, 19]), ([20, 11], [11, 20]), ([21, 11], [11, 21]), ([16, 22, 11], [11, 16, 22]), ([11, 23, 8], [8, 11, 23]), ([8, 24], [8, 24])])
def interlocklaw12_LoopInto.B20 : List Nat := [0, 0, 0, 6, 14, 30, 63, 127, 255, 511, 1023, 2047, 4095, 4095, 16383, 32767, 65535, 4095, 4095, 266239, 921599, 1970175, 4067327, 8388607, 16777215, 33554431]
theorem interlocklaw12_LoopInto.tab20 : rtab .any (opsOf Tryd.f5 20) = interlocklaw12_LoopInto.T20 := by kernel_rfl
theorem interlocklaw12_LoopInto.bits20 : waitsOk interlocklaw12_LoopInto.T20.2 interlocklaw12_LoopInto.B20 = true := by kernel_rfl
set_option maxHeartbeats 8000000 in
set_option maxRecDepth 100000 in
theorem interlocklaw12_LoopInto.calls (k : Nat) (a0 : Int) (A1 : Option Addr) (c1 : Nat) (l1 : List Int) (r : Bool) (w : World) (hr1 : Kd.C (Kd.int .u8) w A1 l1.length l1) (hc1 : l1.length ≤ c1) (HT0 : It.TabOk w) (h : interlocklaw12_LoopInto.f k a0 l1 = some r) :
    Calls Tryd.prog 5 #[.int .u8 a0, .slice A1 l1.length c1] w fun e w' => e = .returned (.bool r) ∧ Below w.heap.size w w' := by
 have HT := Aside0.mk HT0
 clear HT0
 have HR1 := Aside0.mk hr1
 have HC1 := Aside0.mk hc1
 clear hr1 hc1
 have HB := Aside0.mk (Below.refl w.heap.size w)
 have H : ((interlocklaw10_Graph.f k a0 l1).bind fun t223 => ((loop_Of.f k t223).bind fun t226 => ((interlockref10_Doms.f k t223).bind fun t229 => ((interlockref10_Reach.f k t223).bind fun t232 => ((interlockref10_Preds.f k t223).bind fun t235 => (interlocklaw12_LoopInto.l0 k t223 t226 t229 t232 t235 0)))))) = some r := h
 clear h
 replace H := Option.bind_eq_some_iff.mp H
 obtain ⟨t223, A30, H⟩ := H
 replace H : ((loop_Of.f k t223).bind fun t226 => ((interlockref10_Doms.f k t223).bind fun t229 => ((interlockref10_Reach.f k t223).bind fun t232 => ((interlockref10_Preds.f k t223).bind fun t235 => (interlocklaw12_LoopInto.l0 k t223 t226 t229 t232 t235 0))))) = some r := H
 have A3 := Aside0.mk A30
 clear A30
 replace H := Option.bind_eq_some_iff.mp H
 obtain ⟨t226, A40, H⟩ := H
 replace H : ((interlockref10_Doms.f k t223).bind fun t229 => ((interlockref10_Reach.f k t223).bind fun t232 => ((interlockref10_Preds.f k t223).bind fun t235 => (interlocklaw12_LoopInto.l0 k t223 t226 t229 t232 t235 0)))) = some r := H
 have A4 := Aside0.mk A40
 clear A40
 replace H := Option.bind_eq_some_iff.mp H
 obtain ⟨t229, A50, H⟩ := H
 replace H : ((interlockref10_Reach.f k t223).bind fun t232 => ((interlockref10_Preds.f k t223).bind fun t235 => (interlocklaw12_LoopInto.l0 k t223 t226 t229 t232 t235 0))) = some r := H
 have A5 := Aside0.mk A50
 clear A50
 replace H := Option.bind_eq_some_iff.mp H
 obtain ⟨t232, A60, H⟩ := H
 replace H : ((interlockref10_Preds.f k t223).bind fun t235 => (interlocklaw12_LoopInto.l0 k t223 t226 t229 t232 t235 0)) = some r := H
 have A6 := Aside0.mk A60
 clear A60
 replace H := Option.bind_eq_some_iff.mp H
 obtain ⟨t235, A70, H⟩ := H
 replace H : (interlocklaw12_LoopInto.l0 k t223 t226 t229 t232 t235 0) = some r := H
 have A7 := Aside0.mk A70
 clear A70
 have H' := Aside0.mk H
 clear H
 go_enter Tryd.func5, Tryd.ntmps5
 go_wp2_with (first | ((with_reducible refine gate_callee (f := 8) rfl ?_); refine goesL_ (some 16) rfl rfl Tryd.func8 (by kernel_rfl) rfl #[.int .u8 a0, .slice A1 l1.length c1] rfl (by (try simp only [List.map_toArray, List.map_cons, List.map_nil]); first | done | rfl | (simp only [List.length_drop, List.length_take]; rfl)) ?_; (with_reducible refine (interlocklaw10_Graph.calls k a0 _ _ l1 t223 _ ?side1 ?side2 A3.out).mono ?_); (case side1 => repeat (first | exact HR1.out | (with_reducible refine Kd.C_alloc ?_ _) | (with_reducible refine Kd.C_drewN ?_ _) | (with_reducible refine Kd.C_drew ?_))); (case side2 => exact HC1.out); rintro e w8 ⟨v224, rfl, ho0, hb⟩; refine ⟨_, rfl, ?_⟩; have n0_ := Aside0.mk (Kd.S_lower ho0 (below_size (by repeat (first | (with_reducible first | exact HB.out | apply below_alloc | apply pw_below_drewN | apply below_drew1) | exact HB.out)))); have n1_ := Aside0.mk (below_step (by repeat (first | (with_reducible first | exact HB.out | apply below_alloc | apply pw_below_drewN | apply below_drew1) | exact HB.out)) hb); clear HB; have HO225 := n0_; have HB := n1_; clear n0_ n1_; (try clear hb); (try clear hb2); (try clear hk); (try clear hi); (try clear ho0); obtain ⟨Ao9, co9, eo9⟩ := Kd.S_slice HO225.out; subst eo9) | ((with_reducible refine gate_callee (f := 9) rfl ?_); refine goesL_ (some 18) rfl rfl Tryd.func9 (by kernel_rfl) rfl #[.slice Ao9 t223.length co9] rfl (by (try simp only [List.map_toArray, List.map_cons, List.map_nil]); first | done | rfl | (simp only [List.length_drop, List.length_take]; rfl)) ?_; (with_reducible refine (loop_Of.calls k _ _ t223 t226 _ ?side1 ?side2 ?side3 A4.out).mono ?_); (case side1 => repeat (first | exact (Kd.S_reads' HO225.out).2.2 | (with_reducible refine Kd.C_alloc ?_ _) | (with_reducible refine Kd.C_drewN ?_ _) | (with_reducible refine Kd.C_drew ?_))); (case side2 => exact (Kd.S_reads' HO225.out).2.1); (case side3 => exact It.TabOk.below HT.out (by repeat (first | (with_reducible first | exact HB.out | apply below_alloc | apply pw_below_drewN | apply below_drew1) | exact HB.out))); rintro e w10 ⟨v227, rfl, ho0, hb⟩; refine ⟨_, rfl, ?_⟩; have n0_ := Aside0.mk (Kd.S_below (by (with_reducible repeat (first | apply Kd.S_alloc | apply Kd.S_drewN | apply Kd.S_drew)); exact HO225.out) hb); have n1_ := Aside0.mk (Kd.S_lower ho0 (below_size (by repeat (first | (with_reducible first | exact HB.out | apply below_alloc | apply pw_below_drewN | apply below_drew1) | exact HB.out)))); have n2_ := Aside0.mk (below_step (by repeat (first | (with_reducible first | exact HB.out | apply below_alloc | apply pw_below_drewN | apply below_drew1) | exact HB.out)) hb); clear HO225; clear HB; have HO225 := n0_; have HO228 := n1_; have HB := n2_; clear n0_ n1_ n2_; (try clear hb); (try clear hb2); (try clear hk); (try clear hi); (try clear ho0)) | ((with_reducible refine gate_callee (f := 10) rfl ?_); refine goesL_ (some 20) rfl rfl Tryd.func10 (by kernel_rfl) rfl #[.slice Ao9 t223.length co9] rfl (by (try simp only [List.map_toArray, List.map_cons, List.map_nil]); first | done | rfl | (simp only [List.length_drop, List.length_take]; rfl)) ?_; (with_reducible refine (interlockref10_Doms.calls k _ _ t223 t229 _ ?side1 ?side2 A5.out).mono ?_); (case side1 => repeat (first | exact (Kd.S_reads' HO225.out).2.2 | (with_reducible refine Kd.C_alloc ?_ _) | (with_reducible refine Kd.C_drewN ?_ _) | (with_reducible refine Kd.C_drew ?_))); (case side2 => exact (Kd.S_reads' HO225.out).2.1); rintro e w11 ⟨v230, rfl, ho0, hb⟩; refine ⟨_, rfl, ?_⟩; have n0_ := Aside0.mk (Kd.S_below (by (with_reducible repeat (first | apply Kd.S_alloc | apply Kd.S_drewN | apply Kd.S_drew)); exact HO225.out) hb); have n1_ := Aside0.mk (Kd.S_below (by (with_reducible repeat (first | apply Kd.S_alloc | apply Kd.S_drewN | apply Kd.S_drew)); exact HO228.out) hb); have n2_ := Aside0.mk (Kd.R_lower ho0 (below_size (by repeat (first | (with_reducible first | exact HB.out | apply below_alloc | apply pw_below_drewN | apply below_drew1) | exact HB.out)))); have n3_ := Aside0.mk (below_step (by repeat (first | (with_reducible first | exact HB.out | apply below_alloc | apply pw_below_drewN | apply below_drew1) | exact HB.out)) hb); clear HO225; clear HO228; clear HB; have HO225 := n0_; have HO228 := n1_; have HO231 := n2_; have HB := n3_; clear n0_ n1_ n2_ n3_; (try clear hb); (try clear hb2); (try clear hk); (try clear hi); (try clear ho0)) | ((with_reducible refine gate_callee (f := 11) rfl ?_); refine goesL_ (some 22) rfl rfl Tryd.func11 (by kernel_rfl) rfl #[.slice Ao9 t223.length co9] rfl (by (try simp only [List.map_toArray, List.map_cons, List.map_nil]); first | done | rfl | (simp only [List.length_drop, List.length_take]; rfl)) ?_; (with_reducible refine (interlockref10_Reach.calls k _ _ t223 t232 _ ?side1 ?side2 A6.out).mono ?_); (case side1 => repeat (first | exact (Kd.S_reads' HO225.out).2.2 | (with_reducible refine Kd.C_alloc ?_ _) | (with_reducible refine Kd.C_drewN ?_ _) | (with_reducible refine Kd.C_drew ?_))); (case side2 => exact (Kd.S_reads' HO225.out).2.1); rintro e w12 ⟨v233, rfl, ho0, hb⟩; refine ⟨_, rfl, ?_⟩; have n0_ := Aside0.mk (Kd.S_below (by (with_reducible repeat (first | apply Kd.S_alloc | apply Kd.S_drewN | apply Kd.S_drew)); exact HO225.out) hb); have n1_ := Aside0.mk (Kd.S_below (by (with_reducible repeat (first | apply Kd.S_alloc | apply Kd.S_drewN | apply Kd.S_drew)); exact HO228.out) hb); have n2_ := Aside0.mk (Kd.R_below (by (with_reducible repeat (first | apply Kd.R_alloc | apply Kd.R_drewN | apply Kd.R_drew)); exact HO231.out) hb); have n3_ := Aside0.mk (Kd.R_lower ho0 (below_size (by repeat (first | (with_reducible first | exact HB.out | apply below_alloc | apply pw_below_drewN | apply below_drew1) | exact HB.out)))); have n4_ := Aside0.mk (below_step (by repeat (first | (with_reducible first | exact HB.out | apply below_alloc | apply pw_below_drewN | apply below_drew1) | exact HB.out)) hb); clear HO225; clear HO228; clear HO231; clear HB; have HO225 := n0_; have HO228 := n1_; have HO231 := n2_; have HO234 := n3_; have HB := n4_; clear n0_ n1_ n2_ n3_ n4_; (try clear hb); (try clear hb2); (try clear hk); (try clear hi); (try clear ho0)) | ((with_reducible refine gate_callee (f := 19) rfl ?_); refine goesL_ (some 24) rfl rfl Tryd.func19 (by kernel_rfl) rfl #[.slice Ao9 t223.length co9] rfl (by (try simp only [List.map_toArray, List.map_cons, List.map_nil]); first | done | rfl | (simp only [List.length_drop, List.length_take]; rfl)) ?_; (with_reducible refine (interlockref10_Preds.calls k _ _ t223 t235 _ ?side1 ?side2 A7.out).mono ?_); (case side1 => repeat (first | exact (Kd.S_reads' HO225.out).2.2 | (with_reducible refine Kd.C_alloc ?_ _) | (with_reducible refine Kd.C_drewN ?_ _) | (with_reducible refine Kd.C_drew ?_))); (case side2 => exact (Kd.S_reads' HO225.out).2.1); rintro e w13 ⟨v236, rfl, ho0, hb⟩; refine ⟨_, rfl, ?_⟩; have n0_ := Aside0.mk (Kd.S_elder' (by (with_reducible repeat (first | apply Kd.S_alloc | apply Kd.S_drewN | apply Kd.S_drew)); exact HO225.out) (Kd.S_base ho0) hb); have n1_ := Aside0.mk (Kd.S_below (by (with_reducible repeat (first | apply Kd.S_alloc | apply Kd.S_drewN | apply Kd.S_drew)); exact HO228.out) hb); have n2_ := Aside0.mk (Kd.R_below (by (with_reducible repeat (first | apply Kd.R_alloc | apply Kd.R_drewN | apply Kd.R_drew)); exact HO231.out) hb); have n3_ := Aside0.mk (Kd.R_below (by (with_reducible repeat (first | apply Kd.R_alloc | apply Kd.R_drewN | apply Kd.R_drew)); exact HO234.out) hb); have n4_ := Aside0.mk (Kd.S_lower (Kd.S_new' ho0 (Kd.S_lt (by (with_reducible repeat (first | apply Kd.S_alloc | apply Kd.S_drewN | apply Kd.S_drew)); exact HO225.out))) (below_size (by repeat (first | (with_reducible first | exact HB.out | apply below_alloc | apply pw_below_drewN | apply below_drew1) | exact HB.out)))); have n5_ := Aside0.mk (below_step (by repeat (first | (with_reducible first | exact HB.out | apply below_alloc | apply pw_below_drewN | apply below_drew1) | exact HB.out)) hb); clear HO225; clear HO228; clear HO231; clear HO234; clear HB; have HO225 := n0_; have HO228 := n1_; have HO231 := n2_; have HO234 := n3_; have HO237 := n4_; have HB := n5_; clear n0_ n1_ n2_ n3_ n4_ n5_; (try clear hb); (try clear hb2); (try clear hk); (try clear hi); (try clear ho0)))
 go_loopg [10] k (fun kq v10 w' => ∃ (x10_1 : Int), v10 = .int .i64 x10_1 ∧ Aside0 (interlocklaw12_LoopInto.l0 kq t223 t226 t229 t232 t235 x10_1 = some r) ∧ Aside0 (kq ≤ k) ∧ Aside0 (Kd.S (Kd.slice 3 (Kd.int .i64)) 31 w' w.heap.size (fun k_ => some k_ ≠ (v236 : Value).ownBlock) (.slice Ao9 t223.length co9) t223) ∧ Aside0 (Kd.S k35 35 w' w.heap.size (fun _ => True) v227 t226) ∧ Aside0 (Kd.R (Kd.int .u64) 33 w' w.heap.size (fun _ => True) v230 t229) ∧ Aside0 (Kd.R Kd.bool 4 w' w.heap.size (fun _ => True) v233 t232) ∧ Aside0 (Kd.S (Kd.slice 3 (Kd.int .i64)) 31 w' w.heap.size (fun k_ => some k_ ≠ ((.slice Ao9 t223.length co9) : Value).ownBlock) v236 t235) ∧ Aside0 (Below w.heap.size w w'))
 case atStart => exact ⟨(0), (by first | rfl | (simp; done) | (simp [*]; done)), H', ⟨Nat.le_refl _⟩, ⟨by (with_reducible repeat (first | apply Kd.S_alloc | apply Kd.S_drewN | apply Kd.S_drew)); exact Kd.S_mono HO225.out (fun _ hk => hk.2)⟩, ⟨by (with_reducible repeat (first | apply Kd.S_alloc | apply Kd.S_drewN | apply Kd.S_drew)); exact HO228.out⟩, ⟨by (with_reducible repeat (first | apply Kd.R_alloc | apply Kd.R_drewN | apply Kd.R_drew)); exact HO231.out⟩, ⟨by (with_reducible repeat (first | apply Kd.R_alloc | apply Kd.R_drewN | apply Kd.R_drew)); exact HO234.out⟩, ⟨by (with_reducible repeat (first | apply Kd.S_alloc | apply Kd.S_drewN | apply Kd.S_drew)); exact Kd.S_mono HO237.out (fun _ hk => hk.2)⟩, ⟨by repeat (first | (with_reducible first | exact HB.out | apply below_alloc | apply pw_below_drewN | apply below_drew1) | exact HB.out)⟩⟩
 case round => (
 clear H'
 try clear c1
 try clear p2
 try clear c5
 try clear c8
 try clear c9
 try clear c10
 try clear c11
 obtain ⟨x10_1, rfl, HA, HK1, HO_5, HO_6, HO_7, HO_8, HO_9, HB⟩ := hrel
 cases gk with
 | zero => exact absurd HA.out (by simp [interlocklaw12_LoopInto.l0])
 | succ k1 => (
 have H := HA.out
 clear HA
 simp only [interlocklaw12_LoopInto.l0] at H
 by_cases c14 : x10_1 < (t226.length : Int)
 {
 rw [if_pos c14] at H
 have c14b0 : decide (x10_1 < (t226.length : Int)) = true := decide_eq_true c14
 clear c14
 by_cases c15 : 0 ≤ x10_1
 as_aux_lemma => {
 rw [if_pos c15] at H
 have c15b0 : decide (0 ≤ x10_1) = true := decide_eq_true c15
 clear c15
 have H' := Aside0.mk H
 clear H
 obtain ⟨Ao16, co16, eo16⟩ := Kd.S_slice HO_6.out
 subst eo16
 have p239 : 0 ≤ (x10_1 : Int) := oD (by first | (with_reducible assumption) | assumption)
 have q239 : x10_1 < (t226.length : Int) := oD (by first | (with_reducible assumption) | assumption)
 obtain ⟨ad239, A239_1, c239_1, e239, hx239_0, hx239_1, hl239_1, hi239_1⟩ := at_T35 (Kd.S_reads' HO_6.out).2.2 x10_1 p239 q239
 cases e239
 obtain ⟨ce239, hce239, hMe239, hcc239⟩ := Kd.S_get HO_6.out z35 x10_1 p239 (by first | exact q239 | exact oD (by first | (with_reducible assumption) | assumption) | (have e_ := (Kd.S_reads' HO_6.out).1; omega))
 obtain ⟨ve239_1, rfl, ge239_1⟩ := k35_openM hMe239
 have hv239_1 := hcc239 1 _ rfl
 rw [add_field _ _ 1 (by omega)] at hv239_1
 replace hv239_1 := Option.some.inj (hv239_1.symm.trans hx239_1)
 rw [hv239_1] at ge239_1
 have HL239_1 := Aside0.mk (show Kd.R (Kd.int .i64) 3 _ _ _ _ ((rd_T35 t226 x10_1).f1) from ge239_1)
 clear hv239_1 ge239_1
 clear hcc239 hce239
 have HR239_1 := Aside0.mk hi239_1
 have HC239_1 := Aside0.mk hl239_1
 clear hi239_1 hl239_1
 replace p239 := eq_true p239
 replace q239 := eq_true q239
 go_wp2
 go_loopg [12] k1 (fun kq v12 w' => ∃ (x12_2 : Int), v12 = .int .i64 x12_2 ∧ Aside0 (interlocklaw12_LoopInto.l1 kq t223 t226 t229 t232 t235 x10_1 ((rd_T35 t226 x10_1).f1) x12_2 = some r) ∧ Aside0 (kq ≤ k1) ∧ Aside0 (Kd.S (Kd.slice 3 (Kd.int .i64)) 31 w' w.heap.size (fun k_ => some k_ ≠ (v236 : Value).ownBlock) (.slice Ao9 t223.length co9) t223) ∧ Aside0 (Kd.S k35 35 w' w.heap.size (fun _ => True) (.slice (some ad239) t226.length co16) t226) ∧ Aside0 (Kd.R (Kd.int .u64) 33 w' w.heap.size (fun _ => True) v230 t229) ∧ Aside0 (Kd.R Kd.bool 4 w' w.heap.size (fun _ => True) v233 t232) ∧ Aside0 (Kd.S (Kd.slice 3 (Kd.int .i64)) 31 w' w.heap.size (fun k_ => some k_ ≠ ((.slice Ao9 t223.length co9) : Value).ownBlock) v236 t235) ∧ Aside0 (Kd.C (Kd.int .i64) w' A239_1 ((rd_T35 t226 x10_1).f1).length ((rd_T35 t226 x10_1).f1)) ∧ Aside0 (Below w.heap.size w w'))
 case atStart => exact ⟨(0), (by first | rfl | (simp; done) | (simp [*]; done)), H', ⟨Nat.le_refl _⟩, ⟨by (with_reducible repeat (first | apply Kd.S_alloc | apply Kd.S_drewN | apply Kd.S_drew)); exact HO_5.out⟩, ⟨by (with_reducible repeat (first | apply Kd.S_alloc | apply Kd.S_drewN | apply Kd.S_drew)); exact HO_6.out⟩, ⟨by (with_reducible repeat (first | apply Kd.R_alloc | apply Kd.R_drewN | apply Kd.R_drew)); exact HO_7.out⟩, ⟨by (with_reducible repeat (first | apply Kd.R_alloc | apply Kd.R_drewN | apply Kd.R_drew)); exact HO_8.out⟩, ⟨by (with_reducible repeat (first | apply Kd.S_alloc | apply Kd.S_drewN | apply Kd.S_drew)); exact HO_9.out⟩, ⟨by repeat (first | (with_reducible exact HR239_1.out) | (with_reducible refine Kd.C_alloc ?_ _) | (with_reducible refine Kd.C_drewN ?_ _) | (with_reducible refine Kd.C_drew ?_) | exact HR239_1.out)⟩, ⟨by repeat (first | (with_reducible first | exact HB.out | apply below_alloc | apply pw_below_drewN | apply below_drew1) | exact HB.out)⟩⟩
 case round => (
 clear H'
 try clear c1
 try clear c2
 try clear p2
 try clear q2
 try clear hx2
 try clear c5
 try clear c8
 try clear c9
 try clear c10
 try clear c11
 try clear c14
 try clear c14b0
 try clear c15
 try clear c15b0
 try clear hx239_0
 try clear hx239_1
 try clear p2
 try clear p239
 try clear q239
 obtain ⟨x12_2, rfl, HA, HK2, HO_5, HO_6, HO_7, HO_8, HO_9, HR239_1, HB⟩ := hrel
 cases gk with
 | zero => exact absurd HA.out (by simp [interlocklaw12_LoopInto.l1])
 | succ k2 => (
 have H := HA.out
 clear HA
 simp only [interlocklaw12_LoopInto.l1] at H
 by_cases c17 : x12_2 < (((rd_T35 t226 x10_1).f1).length : Int)
 as_aux_lemma => {
 rw [if_pos c17] at H
 have c17b0 : decide (x12_2 < (((rd_T35 t226 x10_1).f1).length : Int)) = true := decide_eq_true c17
 clear c17
 have HC18 := Aside0.mk H
 clear H
 go_upto_region 13 with (fail)
 go_cut [97] (fun v97 wc => ∃ (kq : Nat) (x97_17 : Bool), v97 = .bool x97_17 ∧ Aside0 (interlocklaw12_LoopInto.j2 kq t223 t226 t229 t232 t235 x10_1 ((rd_T35 t226 x10_1).f1) x12_2 x97_17 = some r) ∧ Aside0 (kq ≤ k2) ∧ Aside0 (Kd.S (Kd.slice 3 (Kd.int .i64)) 31 wc w.heap.size (fun k_ => some k_ ≠ (v236 : Value).ownBlock) (.slice Ao9 t223.length co9) t223) ∧ Aside0 (Kd.S k35 35 wc w.heap.size (fun _ => True) (.slice (some ad239) t226.length co16) t226) ∧ Aside0 (Kd.R (Kd.int .u64) 33 wc w.heap.size (fun _ => True) v230 t229) ∧ Aside0 (Kd.R Kd.bool 4 wc w.heap.size (fun _ => True) v233 t232) ∧ Aside0 (Kd.S (Kd.slice 3 (Kd.int .i64)) 31 wc w.heap.size (fun k_ => some k_ ≠ ((.slice Ao9 t223.length co9) : Value).ownBlock) v236 t235) ∧ Aside0 (Kd.C (Kd.int .i64) wc A239_1 ((rd_T35 t226 x10_1).f1).length ((rd_T35 t226 x10_1).f1)) ∧ Aside0 (Below w.heap.size w wc))
 case first => (
 have H := HC18.out
 clear HC18
 by_cases c19 : 0 ≤ x12_2
 {
 rw [if_pos c19] at H
 have c19b0 : decide (0 ≤ x12_2) = true := decide_eq_true c19
 clear c19
 (first | rw [c19b0] | (simp only [i64_w, i32_w]; rw [c19b0]) | skip)
 by_cases c20 : (rd ((rd_T35 t226 x10_1).f1) x12_2) < 0
 {
 rw [if_pos c20] at H
 cases H
 }
 {
 rw [if_neg c20] at H
 have c20b0 : decide ((rd ((rd_T35 t226 x10_1).f1) x12_2) < 0) = false := decide_eq_false c20
 clear c20
 by_cases c22 : (rd ((rd_T35 t226 x10_1).f1) x12_2) ≥ (t223.length : Int)
 {
 rw [if_pos c22] at H
 cases H
 }
 {
 rw [if_neg c22] at H
 have c22b0 : decide ((t223.length : Int) ≤ (rd ((rd_T35 t226 x10_1).f1) x12_2)) = false := decide_eq_false c22
 clear c22
 by_cases c24 : 0 ≤ (rd ((rd_T35 t226 x10_1).f1) x12_2)
 {
 rw [if_pos c24] at H
 have c24b0 : decide (0 ≤ (rd ((rd_T35 t226 x10_1).f1) x12_2)) = true := decide_eq_true c24
 clear c24
 by_cases c25 : (rd ((rd_T35 t226 x10_1).f1) x12_2) < (t232.length : Int)
 {
 rw [if_pos c25] at H
 have c25b0 : decide ((rd ((rd_T35 t226 x10_1).f1) x12_2) < (t232.length : Int)) = true := decide_eq_true c25
 clear c25
 obtain ⟨bq26, hbq26⟩ : ∃ b_ : Bool, b_ = (rdOf false t232 (rd ((rd_T35 t226 x10_1).f1) x12_2)) := ⟨_, rfl⟩
 replace H : (if (bq26 = true) then (if (rd ((rd_T35 t226 x10_1).f1) x12_2) < (t229.length : Int) then (if 0 ≤ x10_1 then (if x10_1 < (t226.length : Int) then ((interlockref01_Has.f k2 (rd t229 (rd ((rd_T35 t226 x10_1).f1) x12_2)) ((rd_T35 t226 x10_1).f0)).bind fun t251 => (if t251 = true then (if x12_2 > 0 then (if 0 ≤ (wrap64 (x12_2 - 1)) then (if (wrap64 (x12_2 - 1)) < (((rd_T35 t226 x10_1).f1).length : Int) then (interlocklaw12_LoopInto.j2 k2 t223 t226 t229 t232 t235 x10_1 ((rd_T35 t226 x10_1).f1) x12_2 (decide ((rd ((rd_T35 t226 x10_1).f1) x12_2) ≤ (rd ((rd_T35 t226 x10_1).f1) (wrap64 (x12_2 - 1)))))) else (none)) else (none)) else (interlocklaw12_LoopInto.j2 k2 t223 t226 t229 t232 t235 x10_1 ((rd_T35 t226 x10_1).f1) x12_2 false)) else (none))) else (none)) else (none)) else (none)) else (none)) = some r := by rw [← hbq26] at H; exact H
 have Nbq26 := Aside0.mk hbq26
 clear hbq26
 by_cases c27 : (bq26 = true)
 {
 subst c27
 have H1 : (if (rd ((rd_T35 t226 x10_1).f1) x12_2) < (t229.length : Int) then (if 0 ≤ x10_1 then (if x10_1 < (t226.length : Int) then ((interlockref01_Has.f k2 (rd t229 (rd ((rd_T35 t226 x10_1).f1) x12_2)) ((rd_T35 t226 x10_1).f0)).bind fun t251 => (if t251 = true then (if x12_2 > 0 then (if 0 ≤ (wrap64 (x12_2 - 1)) then (if (wrap64 (x12_2 - 1)) < (((rd_T35 t226 x10_1).f1).length : Int) then (interlocklaw12_LoopInto.j2 k2 t223 t226 t229 t232 t235 x10_1 ((rd_T35 t226 x10_1).f1) x12_2 (decide ((rd ((rd_T35 t226 x10_1).f1) x12_2) ≤ (rd ((rd_T35 t226 x10_1).f1) (wrap64 (x12_2 - 1)))))) else (none)) else (none)) else (interlocklaw12_LoopInto.j2 k2 t223 t226 t229 t232 t235 x10_1 ((rd_T35 t226 x10_1).f1) x12_2 false)) else (none))) else (none)) else (none)) else (none)) = some r := by rw [if_pos rfl] at H; exact H
 clear H
 have H := H1
 clear H1
 by_cases c28 : (rd ((rd_T35 t226 x10_1).f1) x12_2) < (t229.length : Int)
 {
 rw [if_pos c28] at H
 have c28b0 : decide ((rd ((rd_T35 t226 x10_1).f1) x12_2) < (t229.length : Int)) = true := decide_eq_true c28
 clear c28
 by_cases c29 : 0 ≤ x10_1
 {
 rw [if_pos c29] at H
 have c29b0 : decide (0 ≤ x10_1) = true := decide_eq_true c29
 clear c29
 by_cases c30 : x10_1 < (t226.length : Int)
 {
 rw [if_pos c30] at H
 have c30b0 : decide (x10_1 < (t226.length : Int)) = true := decide_eq_true c30
 clear c30
 replace H := Option.bind_eq_some_iff.mp H
 obtain ⟨t251, A310, H⟩ := H
 replace H : (if t251 = true then (if x12_2 > 0 then (if 0 ≤ (wrap64 (x12_2 - 1)) then (if (wrap64 (x12_2 - 1)) < (((rd_T35 t226 x10_1).f1).length : Int) then (interlocklaw12_LoopInto.j2 k2 t223 t226 t229 t232 t235 x10_1 ((rd_T35 t226 x10_1).f1) x12_2 (decide ((rd ((rd_T35 t226 x10_1).f1) x12_2) ≤ (rd ((rd_T35 t226 x10_1).f1) (wrap64 (x12_2 - 1)))))) else (none)) else (none)) else (interlocklaw12_LoopInto.j2 k2 t223 t226 t229 t232 t235 x10_1 ((rd_T35 t226 x10_1).f1) x12_2 false)) else (none)) = some r := H
 have A31 := Aside0.mk A310
 clear A310
 by_cases c32 : t251 = true
 as_aux_lemma => {
 subst c32
 have H1 : (if x12_2 > 0 then (if 0 ≤ (wrap64 (x12_2 - 1)) then (if (wrap64 (x12_2 - 1)) < (((rd_T35 t226 x10_1).f1).length : Int) then (interlocklaw12_LoopInto.j2 k2 t223 t226 t229 t232 t235 x10_1 ((rd_T35 t226 x10_1).f1) x12_2 (decide ((rd ((rd_T35 t226 x10_1).f1) x12_2) ≤ (rd ((rd_T35 t226 x10_1).f1) (wrap64 (x12_2 - 1)))))) else (none)) else (none)) else (interlocklaw12_LoopInto.j2 k2 t223 t226 t229 t232 t235 x10_1 ((rd_T35 t226 x10_1).f1) x12_2 false)) = some r := by rw [if_pos rfl] at H; exact H
 clear H
 have H := H1
 clear H1
 by_cases c33 : x12_2 > 0
 {
 rw [if_pos c33] at H
 have c33b0 : decide (0 < x12_2) = true := decide_eq_true c33
 clear c33
 obtain ⟨ji34, hji34⟩ : ∃ j_ : Int, (wrap64 (x12_2 - 1)) = j_ := ⟨_, rfl⟩
 replace H : (if 0 ≤ (ji34) then (if (ji34) < (((rd_T35 t226 x10_1).f1).length : Int) then (interlocklaw12_LoopInto.j2 k2 t223 t226 t229 t232 t235 x10_1 ((rd_T35 t226 x10_1).f1) x12_2 (decide ((rd ((rd_T35 t226 x10_1).f1) x12_2) ≤ (rd ((rd_T35 t226 x10_1).f1) (ji34))))) else (none)) else (none)) = some r := by first | (rw [hji34] at H; exact H) | (simp only [hji34] at H ⊢; exact H)
 (try rw [hji34] at A31)
 have hji34w : (IntKind.i64.wrap (x12_2 - 1)) = ji34 := (i64_w _).trans hji34
 by_cases c35 : 0 ≤ (ji34)
 {
 rw [if_pos c35] at H
 have c35b0 : decide (0 ≤ (ji34)) = true := decide_eq_true c35
 clear c35
 by_cases c36 : (ji34) < (((rd_T35 t226 x10_1).f1).length : Int)
 as_aux_lemma => {
 rw [if_pos c36] at H
 have c36b0 : decide ((ji34) < (((rd_T35 t226 x10_1).f1).length : Int)) = true := decide_eq_true c36
 clear c36
 have H' := Aside0.mk H
 clear H
 try go_wp2
 have n0_ := Aside0.mk (Kd.S_drew HO_5.out)
 have n1_ := Aside0.mk (Kd.S_drew HO_6.out)
 have n2_ := Aside0.mk (Kd.R_drew HO_7.out)
 have n3_ := Aside0.mk (Kd.R_drew HO_8.out)
 have n4_ := Aside0.mk (Kd.S_drew HO_9.out)
 have n5_ := Aside0.mk (Kd.C_drew HR239_1.out)
 have n6_ := Aside0.mk (below_drew1 HB.out)
 clear HO_5
 clear HO_6
 clear HO_7
 clear HO_8
 clear HO_9
 clear HR239_1
 clear HB
 have HO_5 := n0_
 have HO_6 := n1_
 have HO_7 := n2_
 have HO_8 := n3_
 have HO_9 := n4_
 have HR239_1 := n5_
 have HB := n6_
 clear n0_ n1_ n2_ n3_ n4_ n5_ n6_
 have p244 : 0 ≤ (x12_2 : Int) := oD (by first | (with_reducible assumption) | assumption)
 have q244 : x12_2 < (((rd_T35 t226 x10_1).f1).length : Int) := oD (by first | (with_reducible assumption) | assumption)
 obtain ⟨ad244, e244, hx244_0⟩ := Kd.at_int (by repeat (first | (with_reducible exact HR239_1.out) | (with_reducible refine Kd.C_alloc ?_ _) | (with_reducible refine Kd.C_drewN ?_ _) | (with_reducible refine Kd.C_drew ?_) | exact HR239_1.out)) x12_2 p244 q244
 cases e244
 replace p244 := eq_true p244
 replace q244 := eq_true q244
 have p245 : 0 ≤ (x12_2 : Int) := oD (by first | (with_reducible assumption) | assumption)
 have q245 : x12_2 < (((rd_T35 t226 x10_1).f1).length : Int) := oD (by first | (with_reducible assumption) | assumption)
 obtain ⟨ad245, e245, hx245_0⟩ := Kd.at_int (by repeat (first | (with_reducible exact HR239_1.out) | (with_reducible refine Kd.C_alloc ?_ _) | (with_reducible refine Kd.C_drewN ?_ _) | (with_reducible refine Kd.C_drew ?_) | exact HR239_1.out)) x12_2 p245 q245
 obtain rfl : ad244 = ad245 := (by injection e245)
 replace p245 := eq_true p245
 replace q245 := eq_true q245
 have p246 : 0 ≤ (x12_2 : Int) := oD (by first | (with_reducible assumption) | assumption)
 have q246 : x12_2 < (((rd_T35 t226 x10_1).f1).length : Int) := oD (by first | (with_reducible assumption) | assumption)
 obtain ⟨ad246, e246, hx246_0⟩ := Kd.at_int (by repeat (first | (with_reducible exact HR239_1.out) | (with_reducible refine Kd.C_alloc ?_ _) | (with_reducible refine Kd.C_drewN ?_ _) | (with_reducible refine Kd.C_drew ?_) | exact HR239_1.out)) x12_2 p246 q246
 obtain rfl : ad244 = ad246 := (by injection e246)
 replace p246 := eq_true p246
 replace q246 := eq_true q246
 obtain ⟨Ao38, co38, eo38⟩ := Kd.R_slice HO_8.out
 (first | subst eo38 | (injection eo38 with f1_ f2_ f3_; have f4_ := f1_.symm; have f5_ := f3_.symm; clear f1_ f2_ f3_; subst f4_; subst f5_))
 have p247 : 0 ≤ ((rd ((rd_T35 t226 x10_1).f1) x12_2) : Int) := oD (by first | (with_reducible assumption) | assumption)
 have q247 : (rd ((rd_T35 t226 x10_1).f1) x12_2) < (t232.length : Int) := oD (by first | (with_reducible assumption) | assumption)
 obtain ⟨ad247, e247, hx247_0⟩ := Kd.at_bool (Kd.R_reads' HO_8.out).2.2 (rd ((rd_T35 t226 x10_1).f1) x12_2) p247 q247
 (try rw [← Nbq26.out] at hx247_0)
 cases e247
 replace p247 := eq_true p247
 replace q247 := eq_true q247
 have p248 : 0 ≤ (x12_2 : Int) := oD (by first | (with_reducible assumption) | assumption)
 have q248 : x12_2 < (((rd_T35 t226 x10_1).f1).length : Int) := oD (by first | (with_reducible assumption) | assumption)
 obtain ⟨ad248, e248, hx248_0⟩ := Kd.at_int (by repeat (first | (with_reducible exact HR239_1.out) | (with_reducible refine Kd.C_alloc ?_ _) | (with_reducible refine Kd.C_drewN ?_ _) | (with_reducible refine Kd.C_drew ?_) | exact HR239_1.out)) x12_2 p248 q248
 obtain rfl : ad244 = ad248 := (by injection e248)
 replace p248 := eq_true p248
 replace q248 := eq_true q248
 obtain ⟨Ao39, co39, eo39⟩ := Kd.R_slice HO_7.out
 (first | subst eo39 | (injection eo39 with f1_ f2_ f3_; have f4_ := f1_.symm; have f5_ := f3_.symm; clear f1_ f2_ f3_; subst f4_; subst f5_))
 have p249 : 0 ≤ ((rd ((rd_T35 t226 x10_1).f1) x12_2) : Int) := oD (by first | (with_reducible assumption) | assumption)
 have q249 : (rd ((rd_T35 t226 x10_1).f1) x12_2) < (t229.length : Int) := oD (by first | (with_reducible assumption) | assumption)
 obtain ⟨ad249, e249, hx249_0⟩ := Kd.at_int (Kd.R_reads' HO_7.out).2.2 (rd ((rd_T35 t226 x10_1).f1) x12_2) p249 q249
 cases e249
 replace p249 := eq_true p249
 replace q249 := eq_true q249
 have p250 : 0 ≤ (x10_1 : Int) := oD (by first | (with_reducible assumption) | assumption)
 have q250 : x10_1 < (t226.length : Int) := oD (by first | (with_reducible assumption) | assumption)
 obtain ⟨ad250, A250_1, c250_1, e250, hx250_0, hx250_1, hl250_1, hi250_1⟩ := at_T35 (Kd.S_reads' HO_6.out).2.2 x10_1 p250 q250
 obtain rfl : ad239 = ad250 := (by injection e250)
 obtain ⟨ce250, hce250, hMe250, hcc250⟩ := Kd.S_get HO_6.out z35 x10_1 p250 (by first | exact q250 | exact oD (by first | (with_reducible assumption) | assumption) | (have e_ := (Kd.S_reads' HO_6.out).1; omega))
 obtain ⟨ve250_1, rfl, ge250_1⟩ := k35_openM hMe250
 have hv250_1 := hcc250 1 _ rfl
 rw [add_field _ _ 1 (by omega)] at hv250_1
 replace hv250_1 := Option.some.inj (hv250_1.symm.trans hx250_1)
 rw [hv250_1] at ge250_1
 have HL250_1 := Aside0.mk (show Kd.R (Kd.int .i64) 3 _ _ _ _ ((rd_T35 t226 x10_1).f1) from ge250_1)
 clear hv250_1 ge250_1
 clear hcc250 hce250
 have HR250_1 := Aside0.mk hi250_1
 have HC250_1 := Aside0.mk hl250_1
 clear hi250_1 hl250_1
 replace p250 := eq_true p250
 replace q250 := eq_true q250
 have p252 : 0 ≤ (x12_2 : Int) := oD (by first | (with_reducible assumption) | assumption)
 have q252 : x12_2 < (((rd_T35 t226 x10_1).f1).length : Int) := oD (by first | (with_reducible assumption) | assumption)
 obtain ⟨ad252, e252, hx252_0⟩ := Kd.at_int (by repeat (first | (with_reducible exact HR239_1.out) | (with_reducible refine Kd.C_alloc ?_ _) | (with_reducible refine Kd.C_drewN ?_ _) | (with_reducible refine Kd.C_drew ?_) | exact HR239_1.out)) x12_2 p252 q252
 obtain rfl : ad244 = ad252 := (by injection e252)
 replace p252 := eq_true p252
 replace q252 := eq_true q252
 have p253 : 0 ≤ ((ji34) : Int) := oD (by first | (with_reducible assumption) | assumption)
 have q253 : (ji34) < (((rd_T35 t226 x10_1).f1).length : Int) := oD (by first | (with_reducible assumption) | assumption)
 obtain ⟨ad253, e253, hx253_0⟩ := Kd.at_int (by repeat (first | (with_reducible exact HR239_1.out) | (with_reducible refine Kd.C_alloc ?_ _) | (with_reducible refine Kd.C_drewN ?_ _) | (with_reducible refine Kd.C_drew ?_) | exact HR239_1.out)) (ji34) p253 q253
 obtain rfl : ad244 = ad253 := (by injection e253)
 replace p253 := eq_true p253
 replace q253 := eq_true q253
 refine start_ (n := 56) (S := fun w' => w'.cell? (ad244.add (x12_2).toNat) = some (.int .i64 (rd ((rd_T35 t226 x10_1).f1) x12_2)) ∧ w'.cell? (ad244.add (x12_2).toNat) = some (.int .i64 (rd ((rd_T35 t226 x10_1).f1) x12_2)) ∧ w'.cell? (ad244.add (x12_2).toNat) = some (.int .i64 (rd ((rd_T35 t226 x10_1).f1) x12_2)) ∧ w'.cell? (ad247.add ((rd ((rd_T35 t226 x10_1).f1) x12_2)).toNat) = some (.bool true) ∧ w'.cell? (ad244.add (x12_2).toNat) = some (.int .i64 (rd ((rd_T35 t226 x10_1).f1) x12_2)) ∧ w'.cell? (ad249.add ((rd ((rd_T35 t226 x10_1).f1) x12_2)).toNat) = some (.int .u64 (rd t229 (rd ((rd_T35 t226 x10_1).f1) x12_2))) ∧ w'.cell? (ad239.add ((x10_1).toNat * 2)) = some (.int .i64 ((rd_T35 t226 x10_1).f0)) ∧ w'.cell? ⟨(ad239.add ((x10_1).toNat * 2)).block, (ad239.add ((x10_1).toNat * 2)).off + 1, none⟩ = some (.slice A250_1 ((rd_T35 t226 x10_1).f1).length c250_1) ∧ w'.cell? (ad244.add (x12_2).toNat) = some (.int .i64 (rd ((rd_T35 t226 x10_1).f1) x12_2)) ∧ w'.cell? (ad244.add ((ji34)).toNat) = some (.int .i64 (rd ((rd_T35 t226 x10_1).f1) (ji34)))) (ds := []) #[F,F,F,F,F,F,F,F,F,F,F,F,F,F,F,F,F,F,F,F,F,F,F,F,F,F,F,F,F,F,F,F,F,F,F,F,F,F,F,F,F,F,F,F,F,F,F,F,F,F,F,F,F,F,F,F] (by kernel_rfl) rfl rfl ⟨hx244_0, hx245_0, hx246_0, hx247_0, hx248_0, hx249_0, hx250_0, hx250_1, hx252_0, hx253_0⟩ (fun hHeld => ?_); refine with_tabW interlocklaw12_LoopInto.tab13 interlocklaw12_LoopInto.bits13 (fun HT_ HW_ => ?_)
 generalize wr.drew = w37 at HO_5 HO_6 HO_7 HO_8 HO_9 HR239_1 HB HL250_1 HR250_1 hx244_0 hx245_0 hx246_0 hx247_0 hx248_0 hx249_0 hx250_0 hx250_1 hHeld ⊢
 refine pure_ (i := 0) (N := some 42) (v := ?_) (a' := ?_) #[T,F,F,F,F,F,F,F,F,F,F,F,F,F,F,F,F,F,F,F,F,F,F,F,F,F,F,F,F,F,F,F,F,F,F,F,F,F,F,F,F,F,F,F,F,F,F,F,F,F,F,F,F,F,F,F] rfl rfl (any_of HT_.out (by kernel_rfl)) (fun _ _ _ h => h) (Or.inl ⟨by rfl, ?_⟩) ?_ ?_
 rotate_left
 {
 intro w'
 go_simp
 with_reducible rfl
 }
 rotate_left
 {
 simp only [Act.put, sT_, sZ_, sS_, i64_w, i32_w]
 rfl
 }
 refine pure_ (i := 1) (N := some 43) (v := ?_) (a' := ?_) #[T,T,F,F,F,F,F,F,F,F,F,F,F,F,F,F,F,F,F,F,F,F,F,F,F,F,F,F,F,F,F,F,F,F,F,F,F,F,F,F,F,F,F,F,F,F,F,F,F,F,F,F,F,F,F,F] rfl rfl (any_of HT_.out (by kernel_rfl)) (fun _ _ _ h => h) (Or.inl ⟨by rfl, ?_⟩) ?_ ?_
 rotate_left
 {
 intro w'
 go_simp
 with_reducible rfl
 }
 rotate_left
 {
 simp only [Act.put, sT_, sZ_, sS_, i64_w, i32_w]
 rfl
 }
 refine pure_ (i := 2) (N := some 44) (v := ?_) (a' := ?_) #[T,T,T,F,F,F,F,F,F,F,F,F,F,F,F,F,F,F,F,F,F,F,F,F,F,F,F,F,F,F,F,F,F,F,F,F,F,F,F,F,F,F,F,F,F,F,F,F,F,F,F,F,F,F,F,F] rfl rfl (any_of HT_.out (by kernel_rfl)) (fun _ _ _ h => h) (Or.inl ⟨by rfl, ?_⟩) ?_ ?_
 rotate_left
 {
 intro w'
 go_simp
 with_reducible rfl
 }
 rotate_left
 {
 simp only [Act.put, sT_, sZ_, sS_, i64_w, i32_w]
 rfl
 }
 refine take_ (i := 3) (N := some 45) (v := ?_) (a' := ?_) #[T,T,T,T,F,F,F,F,F,F,F,F,F,F,F,F,F,F,F,F,F,F,F,F,F,F,F,F,F,F,F,F,F,F,F,F,F,F,F,F,F,F,F,F,F,F,F,F,F,F,F,F,F,F,F,F] rfl rfl (take_ofW HT_.out HW_.out (by kernel_rfl)) (fun _ _ _ h => h) (Or.inl ⟨by rfl, ?_⟩) hHeld ?_ ?_
 rotate_left
 {
 rintro w' ⟨s0, s1, s2, s3, s4, s5, s6, s7, s8, s9⟩
 go_simp
 with_reducible rfl
 }
 rotate_left
 {
 simp only [Act.put, sT_, sZ_, sS_, i64_w, i32_w]
 rfl
 }
 refine pure_ (i := 4) (N := some 46) (v := ?_) (a' := ?_) #[T,T,T,T,T,F,F,F,F,F,F,F,F,F,F,F,F,F,F,F,F,F,F,F,F,F,F,F,F,F,F,F,F,F,F,F,F,F,F,F,F,F,F,F,F,F,F,F,F,F,F,F,F,F,F,F] rfl rfl (any_of HT_.out (by kernel_rfl)) (fun _ _ _ h => h) (Or.inl ⟨by rfl, ?_⟩) ?_ ?_
 rotate_left
 {
 intro w'
 go_simp
 with_reducible rfl
 }
 rotate_left
 {
 simp only [Act.put, sT_, sZ_, sS_, i64_w, i32_w]
 rfl
 }
 refine pure_ (i := 5) (N := some 47) (v := ?_) (a' := ?_) #[T,T,T,T,T,T,F,F,F,F,F,F,F,F,F,F,F,F,F,F,F,F,F,F,F,F,F,F,F,F,F,F,F,F,F,F,F,F,F,F,F,F,F,F,F,F,F,F,F,F,F,F,F,F,F,F] rfl rfl (any_of HT_.out (by kernel_rfl)) (fun _ _ _ h => h) (Or.inl ⟨by rfl, ?_⟩) ?_ ?_
 rotate_left
 {
 intro w'
 go_simp
 with_reducible rfl
 }
 rotate_left
 {
 simp only [Act.put, sT_, sZ_, sS_, i64_w, i32_w]
 rfl
 }
 refine pure_ (i := 6) (N := some 48) (v := ?_) (a' := ?_) #[T,T,T,T,T,T,T,F,F,F,F,F,F,F,F,F,F,F,F,F,F,F,F,F,F,F,F,F,F,F,F,F,F,F,F,F,F,F,F,F,F,F,F,F,F,F,F,F,F,F,F,F,F,F,F,F] rfl rfl (any_of HT_.out (by kernel_rfl)) (fun _ _ _ h => h) (Or.inl ⟨by rfl, ?_⟩) ?_ ?_
 rotate_left
 {
 intro w'
 go_simp
 with_reducible rfl
 }
 rotate_left
 {
 simp only [Act.put, sT_, sZ_, sS_, i64_w, i32_w]
 rfl
 }
 refine pure_ (i := 7) (N := some 49) (v := ?_) (a' := ?_) #[T,T,T,T,T,T,T,T,F,F,F,F,F,F,F,F,F,F,F,F,F,F,F,F,F,F,F,F,F,F,F,F,F,F,F,F,F,F,F,F,F,F,F,F,F,F,F,F,F,F,F,F,F,F,F,F] rfl rfl (any_of HT_.out (by kernel_rfl)) (fun _ _ _ h => h) (Or.inl ⟨by rfl, ?_⟩) ?_ ?_
 rotate_left
 {
 intro w'
 go_simp
 with_reducible rfl
 }
 rotate_left
 {
 simp only [Act.put, sT_, sZ_, sS_, i64_w, i32_w]
 rfl
 }
 refine pure_ (i := 8) (N := some 50) (v := ?_) (a' := ?_) #[T,T,T,T,T,T,T,T,T,F,F,F,F,F,F,F,F,F,F,F,F,F,F,F,F,F,F,F,F,F,F,F,F,F,F,F,F,F,F,F,F,F,F,F,F,F,F,F,F,F,F,F,F,F,F,F] rfl rfl (any_of HT_.out (by kernel_rfl)) (fun _ _ _ h => h) (Or.inl ⟨by rfl, ?_⟩) ?_ ?_
 rotate_left
 {
 intro w'
 go_simp
 with_reducible rfl
 }
 rotate_left
 {
 simp only [Act.put, sT_, sZ_, sS_, i64_w, i32_w]
 rfl
 }
 refine pure_ (i := 10) (N := some 52) (v := ?_) (a' := ?_) #[T,T,T,T,T,T,T,T,T,F,T,F,F,F,F,F,F,F,F,F,F,F,F,F,F,F,F,F,F,F,F,F,F,F,F,F,F,F,F,F,F,F,F,F,F,F,F,F,F,F,F,F,F,F,F,F] rfl rfl (any_of HT_.out (by kernel_rfl)) (fun _ _ _ h => h) (Or.inl ⟨by rfl, ?_⟩) ?_ ?_
 rotate_left
 {
 intro w'
 go_simp
 with_reducible rfl
 }
 rotate_left
 {
 simp only [Act.put, sT_, sZ_, sS_, i64_w, i32_w]
 rfl
 }
 refine pure_ (i := 11) (N := some 53) (v := ?_) (a' := ?_) #[T,T,T,T,T,T,T,T,T,F,T,T,F,F,F,F,F,F,F,F,F,F,F,F,F,F,F,F,F,F,F,F,F,F,F,F,F,F,F,F,F,F,F,F,F,F,F,F,F,F,F,F,F,F,F,F] rfl rfl (any_of HT_.out (by kernel_rfl)) (fun _ _ _ h => h) (Or.inl ⟨by rfl, ?_⟩) ?_ ?_
 rotate_left
 {
 intro w'
 go_simp
 with_reducible rfl
 }
 rotate_left
 {
 simp only [Act.put, sT_, sZ_, sS_, i64_w, i32_w]
 rfl
 }
 refine take_ (i := 9) (N := some 51) (v := ?_) (a' := ?_) #[T,T,T,T,T,T,T,T,T,T,T,T,F,F,F,F,F,F,F,F,F,F,F,F,F,F,F,F,F,F,F,F,F,F,F,F,F,F,F,F,F,F,F,F,F,F,F,F,F,F,F,F,F,F,F,F] rfl rfl (take_ofW HT_.out HW_.out (by kernel_rfl)) (fun _ _ _ h => h) (Or.inl ⟨by rfl, ?_⟩) hHeld ?_ ?_
 rotate_left
 {
 rintro w' ⟨s0, s1, s2, s3, s4, s5, s6, s7, s8, s9⟩
 go_simp
 with_reducible rfl
 }
 rotate_left
 {
 simp only [Act.put, sT_, sZ_, sS_, i64_w, i32_w]
 rfl
 }
 refine pure_ (i := 12) (N := some 54) (v := ?_) (a' := ?_) #[T,T,T,T,T,T,T,T,T,T,T,T,T,F,F,F,F,F,F,F,F,F,F,F,F,F,F,F,F,F,F,F,F,F,F,F,F,F,F,F,F,F,F,F,F,F,F,F,F,F,F,F,F,F,F,F] rfl rfl (any_of HT_.out (by kernel_rfl)) (fun _ _ _ h => h) (Or.inl ⟨by rfl, ?_⟩) ?_ ?_
 rotate_left
 {
 intro w'
 go_simp
 with_reducible rfl
 }
 rotate_left
 {
 simp only [Act.put, sT_, sZ_, sS_, i64_w, i32_w]
 rfl
 }
 refine pure_ (i := 13) (N := some 55) (v := ?_) (a' := ?_) #[T,T,T,T,T,T,T,T,T,T,T,T,T,T,F,F,F,F,F,F,F,F,F,F,F,F,F,F,F,F,F,F,F,F,F,F,F,F,F,F,F,F,F,F,F,F,F,F,F,F,F,F,F,F,F,F] rfl rfl (any_of HT_.out (by kernel_rfl)) (fun _ _ _ h => h) (Or.inl ⟨by rfl, ?_⟩) ?_ ?_
 rotate_left
 {
 intro w'
 go_simp
 with_reducible rfl
 }
 rotate_left
 {
 simp only [Act.put, sT_, sZ_, sS_, i64_w, i32_w]
 rfl
 }
 refine pure_ (i := 14) (N := some 56) (v := ?_) (a' := ?_) #[T,T,T,T,T,T,T,T,T,T,T,T,T,T,T,F,F,F,F,F,F,F,F,F,F,F,F,F,F,F,F,F,F,F,F,F,F,F,F,F,F,F,F,F,F,F,F,F,F,F,F,F,F,F,F,F] rfl rfl (any_of HT_.out (by kernel_rfl)) (fun _ _ _ h => h) (Or.inl ⟨by rfl, ?_⟩) ?_ ?_
 rotate_left
 {
 intro w'
 go_simp
 with_reducible rfl
 }
 rotate_left
 {
 simp only [Act.put, sT_, sZ_, sS_, i64_w, i32_w]
 rfl
 }
 refine pure_ (i := 15) (N := some 57) (v := ?_) (a' := ?_) #[T,T,T,T,T,T,T,T,T,T,T,T,T,T,T,T,F,F,F,F,F,F,F,F,F,F,F,F,F,F,F,F,F,F,F,F,F,F,F,F,F,F,F,F,F,F,F,F,F,F,F,F,F,F,F,F] rfl rfl (any_of HT_.out (by kernel_rfl)) (fun _ _ _ h => h) (Or.inl ⟨by rfl, ?_⟩) ?_ ?_
 rotate_left
 {
 intro w'
 go_simp
 with_reducible rfl
 }
 rotate_left
 {
 simp only [Act.put, sT_, sZ_, sS_, i64_w, i32_w]
 rfl
 }
 refine pure_ (i := 16) (N := some 58) (v := ?_) (a' := ?_) #[T,T,T,T,T,T,T,T,T,T,T,T,T,T,T,T,T,F,F,F,F,F,F,F,F,F,F,F,F,F,F,F,F,F,F,F,F,F,F,F,F,F,F,F,F,F,F,F,F,F,F,F,F,F,F,F] rfl rfl (any_of HT_.out (by kernel_rfl)) (fun _ _ _ h => h) (Or.inl ⟨by rfl, ?_⟩) ?_ ?_
 rotate_left
 {
 intro w'
 go_simp
 with_reducible rfl
 }
 rotate_left
 {
 simp only [Act.put, sT_, sZ_, sS_, i64_w, i32_w]
 rfl
 }
 refine pure_ (i := 17) (N := some 59) (v := ?_) (a' := ?_) #[T,T,T,T,T,T,T,T,T,T,T,T,T,T,T,T,T,T,F,F,F,F,F,F,F,F,F,F,F,F,F,F,F,F,F,F,F,F,F,F,F,F,F,F,F,F,F,F,F,F,F,F,F,F,F,F] rfl rfl (any_of HT_.out (by kernel_rfl)) (fun _ _ _ h => h) (Or.inl ⟨by rfl, ?_⟩) ?_ ?_
 rotate_left
 {
 intro w'
 go_simp
 with_reducible rfl
 }
 rotate_left
 {
 simp only [Act.put, sT_, sZ_, sS_, i64_w, i32_w]
 rfl
 }
 refine pure_ (i := 18) (N := some 60) (v := ?_) (a' := ?_) #[T,T,T,T,T,T,T,T,T,T,T,T,T,T,T,T,T,T,T,F,F,F,F,F,F,F,F,F,F,F,F,F,F,F,F,F,F,F,F,F,F,F,F,F,F,F,F,F,F,F,F,F,F,F,F,F] rfl rfl (any_of HT_.out (by kernel_rfl)) (fun _ _ _ h => h) (Or.inl ⟨by rfl, ?_⟩) ?_ ?_
 rotate_left
 {
 intro w'
 go_simp
 with_reducible rfl
 }
 rotate_left
 {
 simp only [Act.put, sT_, sZ_, sS_, i64_w, i32_w]
 rfl
 }
 refine take_ (i := 19) (N := some 61) (v := ?_) (a' := ?_) #[T,T,T,T,T,T,T,T,T,T,T,T,T,T,T,T,T,T,T,T,F,F,F,F,F,F,F,F,F,F,F,F,F,F,F,F,F,F,F,F,F,F,F,F,F,F,F,F,F,F,F,F,F,F,F,F] rfl rfl (take_ofW HT_.out HW_.out (by kernel_rfl)) (fun _ _ _ h => h) (Or.inl ⟨by rfl, ?_⟩) hHeld ?_ ?_
 rotate_left
 {
 rintro w' ⟨s0, s1, s2, s3, s4, s5, s6, s7, s8, s9⟩
 go_simp
 with_reducible rfl
 }
 rotate_left
 {
 simp only [Act.put, sT_, sZ_, sS_, i64_w, i32_w]
 rfl
 }
 refine pure_ (i := 20) (N := some 62) (v := ?_) (a' := ?_) #[T,T,T,T,T,T,T,T,T,T,T,T,T,T,T,T,T,T,T,T,T,F,F,F,F,F,F,F,F,F,F,F,F,F,F,F,F,F,F,F,F,F,F,F,F,F,F,F,F,F,F,F,F,F,F,F] rfl rfl (any_of HT_.out (by kernel_rfl)) (fun _ _ _ h => h) (Or.inl ⟨by rfl, ?_⟩) ?_ ?_
 rotate_left
 {
 intro w'
 go_simp
 with_reducible rfl
 }
 rotate_left
 {
 simp only [Act.put, sT_, sZ_, sS_, i64_w, i32_w]
 rfl
 }
 refine take_ (i := 21) (N := some 63) (v := ?_) (a' := ?_) #[T,T,T,T,T,T,T,T,T,T,T,T,T,T,T,T,T,T,T,T,T,T,F,F,F,F,F,F,F,F,F,F,F,F,F,F,F,F,F,F,F,F,F,F,F,F,F,F,F,F,F,F,F,F,F,F] rfl rfl (take_ofW HT_.out HW_.out (by kernel_rfl)) (fun _ _ _ h => h) (Or.inl ⟨by rfl, ?_⟩) hHeld ?_ ?_
 rotate_left
 {
 rintro w' ⟨s0, s1, s2, s3, s4, s5, s6, s7, s8, s9⟩
 go_simp
 with_reducible rfl
 }
 rotate_left
 {
 simp only [Act.put, sT_, sZ_, sS_, i64_w, i32_w]
 rfl
 }
 refine pure_ (i := 22) (N := some 64) (v := ?_) (a' := ?_) #[T,T,T,T,T,T,T,T,T,T,T,T,T,T,T,T,T,T,T,T,T,T,T,F,F,F,F,F,F,F,F,F,F,F,F,F,F,F,F,F,F,F,F,F,F,F,F,F,F,F,F,F,F,F,F,F] rfl rfl (any_of HT_.out (by kernel_rfl)) (fun _ _ _ h => h) (Or.inl ⟨by rfl, ?_⟩) ?_ ?_
 rotate_left
 {
 intro w'
 go_simp
 with_reducible rfl
 }
 rotate_left
 {
 simp only [Act.put, sT_, sZ_, sS_, i64_w, i32_w]
 rfl
 }
 refine pure_ (i := 23) (N := some 65) (v := ?_) (a' := ?_) #[T,T,T,T,T,T,T,T,T,T,T,T,T,T,T,T,T,T,T,T,T,T,T,T,F,F,F,F,F,F,F,F,F,F,F,F,F,F,F,F,F,F,F,F,F,F,F,F,F,F,F,F,F,F,F,F] rfl rfl (any_of HT_.out (by kernel_rfl)) (fun _ _ _ h => h) (Or.inl ⟨by rfl, ?_⟩) ?_ ?_
 rotate_left
 {
 intro w'
 go_simp
 with_reducible rfl
 }
 rotate_left
 {
 simp only [Act.put, sT_, sZ_, sS_, i64_w, i32_w]
 rfl
 }
 refine pure_ (i := 24) (N := some 66) (v := ?_) (a' := ?_) #[T,T,T,T,T,T,T,T,T,T,T,T,T,T,T,T,T,T,T,T,T,T,T,T,T,F,F,F,F,F,F,F,F,F,F,F,F,F,F,F,F,F,F,F,F,F,F,F,F,F,F,F,F,F,F,F] rfl rfl (any_of HT_.out (by kernel_rfl)) (fun _ _ _ h => h) (Or.inl ⟨by rfl, ?_⟩) ?_ ?_
 rotate_left
 {
 intro w'
 go_simp
 with_reducible rfl
 }
 rotate_left
 {
 simp only [Act.put, sT_, sZ_, sS_, i64_w, i32_w]
 rfl
 }
 refine pure_ (i := 25) (N := some 67) (v := ?_) (a' := ?_) #[T,T,T,T,T,T,T,T,T,T,T,T,T,T,T,T,T,T,T,T,T,T,T,T,T,T,F,F,F,F,F,F,F,F,F,F,F,F,F,F,F,F,F,F,F,F,F,F,F,F,F,F,F,F,F,F] rfl rfl (any_of HT_.out (by kernel_rfl)) (fun _ _ _ h => h) (Or.inl ⟨by rfl, ?_⟩) ?_ ?_
 rotate_left
 {
 intro w'
 go_simp
 with_reducible rfl
 }
 rotate_left
 {
 simp only [Act.put, sT_, sZ_, sS_, i64_w, i32_w]
 rfl
 }
 refine pure_ (i := 26) (N := some 68) (v := ?_) (a' := ?_) #[T,T,T,T,T,T,T,T,T,T,T,T,T,T,T,T,T,T,T,T,T,T,T,T,T,T,T,F,F,F,F,F,F,F,F,F,F,F,F,F,F,F,F,F,F,F,F,F,F,F,F,F,F,F,F,F] rfl rfl (any_of HT_.out (by kernel_rfl)) (fun _ _ _ h => h) (Or.inl ⟨by rfl, ?_⟩) ?_ ?_
 rotate_left
 {
 intro w'
 go_simp
 with_reducible rfl
 }
 rotate_left
 {
 simp only [Act.put, sT_, sZ_, sS_, i64_w, i32_w]
 rfl
 }
 refine pure_ (i := 27) (N := some 69) (v := ?_) (a' := ?_) #[T,T,T,T,T,T,T,T,T,T,T,T,T,T,T,T,T,T,T,T,T,T,T,T,T,T,T,T,F,F,F,F,F,F,F,F,F,F,F,F,F,F,F,F,F,F,F,F,F,F,F,F,F,F,F,F] rfl rfl (any_of HT_.out (by kernel_rfl)) (fun _ _ _ h => h) (Or.inl ⟨by rfl, ?_⟩) ?_ ?_
 rotate_left
 {
 intro w'
 go_simp
 with_reducible rfl
 }
 rotate_left
 {
 simp only [Act.put, sT_, sZ_, sS_, i64_w, i32_w]
 rfl
 }
 refine pure_ (i := 28) (N := some 70) (v := ?_) (a' := ?_) #[T,T,T,T,T,T,T,T,T,T,T,T,T,T,T,T,T,T,T,T,T,T,T,T,T,T,T,T,T,F,F,F,F,F,F,F,F,F,F,F,F,F,F,F,F,F,F,F,F,F,F,F,F,F,F,F] rfl rfl (any_of HT_.out (by kernel_rfl)) (fun _ _ _ h => h) (Or.inl ⟨by rfl, ?_⟩) ?_ ?_
 rotate_left
 {
 intro w'
 go_simp
 with_reducible rfl
 }
 rotate_left
 {
 simp only [Act.put, sT_, sZ_, sS_, i64_w, i32_w]
 rfl
 }
 refine pure_ (i := 32) (N := some 74) (v := ?_) (a' := ?_) #[T,T,T,T,T,T,T,T,T,T,T,T,T,T,T,T,T,T,T,T,T,T,T,T,T,T,T,T,T,F,F,F,T,F,F,F,F,F,F,F,F,F,F,F,F,F,F,F,F,F,F,F,F,F,F,F] rfl rfl (any_of HT_.out (by kernel_rfl)) (fun _ _ _ h => h) (Or.inl ⟨by rfl, ?_⟩) ?_ ?_
 rotate_left
 {
 intro w'
 go_simp
 with_reducible rfl
 }
 rotate_left
 {
 simp only [Act.put, sT_, sZ_, sS_, i64_w, i32_w]
 rfl
 }
 refine pure_ (i := 33) (N := some 75) (v := ?_) (a' := ?_) #[T,T,T,T,T,T,T,T,T,T,T,T,T,T,T,T,T,T,T,T,T,T,T,T,T,T,T,T,T,F,F,F,T,T,F,F,F,F,F,F,F,F,F,F,F,F,F,F,F,F,F,F,F,F,F,F] rfl rfl (any_of HT_.out (by kernel_rfl)) (fun _ _ _ h => h) (Or.inl ⟨by rfl, ?_⟩) ?_ ?_
 rotate_left
 {
 intro w'
 go_simp
 with_reducible rfl
 }
 rotate_left
 {
 simp only [Act.put, sT_, sZ_, sS_, i64_w, i32_w]
 rfl
 }
 refine pure_ (i := 34) (N := some 76) (v := ?_) (a' := ?_) #[T,T,T,T,T,T,T,T,T,T,T,T,T,T,T,T,T,T,T,T,T,T,T,T,T,T,T,T,T,F,F,F,T,T,T,F,F,F,F,F,F,F,F,F,F,F,F,F,F,F,F,F,F,F,F,F] rfl rfl (any_of HT_.out (by kernel_rfl)) (fun _ _ _ h => h) (Or.inl ⟨by rfl, ?_⟩) ?_ ?_
 rotate_left
 {
 intro w'
 go_simp
 with_reducible rfl
 }
 rotate_left
 {
 simp only [Act.put, sT_, sZ_, sS_, i64_w, i32_w]
 rfl
 }
 refine pure_ (i := 35) (N := some 77) (v := ?_) (a' := ?_) #[T,T,T,T,T,T,T,T,T,T,T,T,T,T,T,T,T,T,T,T,T,T,T,T,T,T,T,T,T,F,F,F,T,T,T,T,F,F,F,F,F,F,F,F,F,F,F,F,F,F,F,F,F,F,F,F] rfl rfl (any_of HT_.out (by kernel_rfl)) (fun _ _ _ h => h) (Or.inl ⟨by rfl, ?_⟩) ?_ ?_
 rotate_left
 {
 intro w'
 go_simp
 with_reducible rfl
 }
 rotate_left
 {
 simp only [Act.put, sT_, sZ_, sS_, i64_w, i32_w]
 rfl
 }
 refine take_ (i := 29) (N := some 71) (v := ?_) (a' := ?_) #[T,T,T,T,T,T,T,T,T,T,T,T,T,T,T,T,T,T,T,T,T,T,T,T,T,T,T,T,T,T,F,F,T,T,T,T,F,F,F,F,F,F,F,F,F,F,F,F,F,F,F,F,F,F,F,F] rfl rfl (take_ofW HT_.out HW_.out (by kernel_rfl)) (fun _ _ _ h => h) (Or.inl ⟨by rfl, ?_⟩) hHeld ?_ ?_
 rotate_left
 {
 rintro w' ⟨s0, s1, s2, s3, s4, s5, s6, s7, s8, s9⟩
 go_simp
 with_reducible rfl
 }
 rotate_left
 {
 simp only [Act.put, sT_, sZ_, sS_, i64_w, i32_w]
 rfl
 }
 refine pure_ (i := 30) (N := some 72) (v := ?_) (a' := ?_) #[T,T,T,T,T,T,T,T,T,T,T,T,T,T,T,T,T,T,T,T,T,T,T,T,T,T,T,T,T,T,T,F,T,T,T,T,F,F,F,F,F,F,F,F,F,F,F,F,F,F,F,F,F,F,F,F] rfl rfl (any_of HT_.out (by kernel_rfl)) (fun _ _ _ h => h) (Or.inl ⟨by rfl, ?_⟩) ?_ ?_
 rotate_left
 {
 intro w'
 go_simp
 with_reducible rfl
 }
 rotate_left
 {
 simp only [Act.put, sT_, sZ_, sS_, i64_w, i32_w]
 rfl
 }
 refine take_ (i := 31) (N := some 73) (v := ?_) (a' := ?_) #[T,T,T,T,T,T,T,T,T,T,T,T,T,T,T,T,T,T,T,T,T,T,T,T,T,T,T,T,T,T,T,T,T,T,T,T,F,F,F,F,F,F,F,F,F,F,F,F,F,F,F,F,F,F,F,F] rfl rfl (take_ofW HT_.out HW_.out (by kernel_rfl)) (fun _ _ _ h => h) (Or.inl ⟨by rfl, ?_⟩) hHeld ?_ ?_
 rotate_left
 {
 rintro w' ⟨s0, s1, s2, s3, s4, s5, s6, s7, s8, s9⟩
 go_simp
 with_reducible rfl
 }
 rotate_left
 {
 simp only [Act.put, sT_, sZ_, sS_, i64_w, i32_w]
 rfl
 }
 refine take_ (i := 36) (N := some 78) (v := ?_) (a' := ?_) #[T,T,T,T,T,T,T,T,T,T,T,T,T,T,T,T,T,T,T,T,T,T,T,T,T,T,T,T,T,T,T,T,T,T,T,T,T,F,F,F,F,F,F,F,F,F,F,F,F,F,F,F,F,F,F,F] rfl rfl (take_ofW HT_.out HW_.out (by kernel_rfl)) (fun _ _ _ h => h) (Or.inl ⟨by rfl, ?_⟩) hHeld ?_ ?_
 rotate_left
 {
 rintro w' ⟨s0, s1, s2, s3, s4, s5, s6, s7, s8, s9⟩
 go_simp
 with_reducible rfl
 }
 rotate_left
 {
 simp only [Act.put, sT_, sZ_, sS_, i64_w, i32_w]
 rfl
 }
 refine one_ (i := 37) (N := some 79) #[T,T,T,T,T,T,T,T,T,T,T,T,T,T,T,T,T,T,T,T,T,T,T,T,T,T,T,T,T,T,T,T,T,T,T,T,T,T,F,F,F,F,F,F,F,F,F,F,F,F,F,F,F,F,F,F] rfl rfl (one_of HT_.out (by kernel_rfl)) (by decide) (fun K hK => ?_)
 refine goes_ Tryd.func12 (by kernel_rfl) rfl #[.int .u64 (rd t229 (rd ((rd_T35 t226 x10_1).f1) x12_2)), .int .i64 ((rd_T35 t226 x10_1).f0)] (by rfl) rfl rfl (by (try simp only [List.map_toArray, List.map_cons, List.map_nil]); first | done | rfl | (simp only [List.length_drop, List.length_take]; rfl)) ?_
 with_reducible refine (interlockref01_Has.calls k2 (rd t229 (rd ((rd_T35 t226 x10_1).f1) x12_2)) ((rd_T35 t226 x10_1).f0) true _ A31.out).mono ?_
 rintro e w' ⟨rfl, ⟨nd, rfl⟩⟩
 refine ⟨_, rfl, ?_⟩
 refine hK.out _ _ ⟨hHeld.1, hHeld.2.1, hHeld.2.2.1, hHeld.2.2.2.1, hHeld.2.2.2.2.1, hHeld.2.2.2.2.2.1, hHeld.2.2.2.2.2.2.1, hHeld.2.2.2.2.2.2.2.1, hHeld.2.2.2.2.2.2.2.2.1, hHeld.2.2.2.2.2.2.2.2.2⟩ (fun hHeld => ?_)
 clear hK K
 refine norm_ (a' := ?_) ?_ ?_
 rotate_left
 {
 show Act.put _ (some 79) _ = _
 simp only [Act.put, sT_, sZ_, sS_, i64_w, i32_w]
 rfl
 }
 refine pure_ (i := 38) (N := some 80) (v := ?_) (a' := ?_) #[T,T,T,T,T,T,T,T,T,T,T,T,T,T,T,T,T,T,T,T,T,T,T,T,T,T,T,T,T,T,T,T,T,T,T,T,T,T,T,F,F,F,F,F,F,F,F,F,F,F,F,F,F,F,F,F] rfl rfl (any_of HT_.out (by kernel_rfl)) (fun _ _ _ h => h) (Or.inl ⟨by rfl, ?_⟩) ?_ ?_
 rotate_left
 {
 intro w'
 go_simp
 with_reducible rfl
 }
 rotate_left
 {
 simp only [Act.put, sT_, sZ_, sS_, i64_w, i32_w]
 rfl
 }
 refine pure_ (i := 39) (N := some 81) (v := ?_) (a' := ?_) #[T,T,T,T,T,T,T,T,T,T,T,T,T,T,T,T,T,T,T,T,T,T,T,T,T,T,T,T,T,T,T,T,T,T,T,T,T,T,T,T,F,F,F,F,F,F,F,F,F,F,F,F,F,F,F,F] rfl rfl (any_of HT_.out (by kernel_rfl)) (fun _ _ _ h => h) (Or.inl ⟨by rfl, ?_⟩) ?_ ?_
 rotate_left
 {
 intro w'
 go_simp
 with_reducible rfl
 }
 rotate_left
 {
 simp only [Act.put, sT_, sZ_, sS_, i64_w, i32_w]
 rfl
 }
 refine pure_ (i := 40) (N := some 82) (v := ?_) (a' := ?_) #[T,T,T,T,T,T,T,T,T,T,T,T,T,T,T,T,T,T,T,T,T,T,T,T,T,T,T,T,T,T,T,T,T,T,T,T,T,T,T,T,T,F,F,F,F,F,F,F,F,F,F,F,F,F,F,F] rfl rfl (any_of HT_.out (by kernel_rfl)) (fun _ _ _ h => h) (Or.inl ⟨by rfl, ?_⟩) ?_ ?_
 rotate_left
 {
 intro w'
 go_simp
 with_reducible rfl
 }
 rotate_left
 {
 simp only [Act.put, sT_, sZ_, sS_, i64_w, i32_w]
 rfl
 }
 refine pure_ (i := 41) (N := some 83) (v := ?_) (a' := ?_) #[T,T,T,T,T,T,T,T,T,T,T,T,T,T,T,T,T,T,T,T,T,T,T,T,T,T,T,T,T,T,T,T,T,T,T,T,T,T,T,T,T,T,F,F,F,F,F,F,F,F,F,F,F,F,F,F] rfl rfl (any_of HT_.out (by kernel_rfl)) (fun _ _ _ h => h) (Or.inl ⟨by rfl, ?_⟩) ?_ ?_
 rotate_left
 {
 intro w'
 go_simp
 with_reducible rfl
 }
 rotate_left
 {
 simp only [Act.put, sT_, sZ_, sS_, i64_w, i32_w]
 rfl
 }
 refine pure_ (i := 42) (N := some 84) (v := ?_) (a' := ?_) #[T,T,T,T,T,T,T,T,T,T,T,T,T,T,T,T,T,T,T,T,T,T,T,T,T,T,T,T,T,T,T,T,T,T,T,T,T,T,T,T,T,T,T,F,F,F,F,F,F,F,F,F,F,F,F,F] rfl rfl (any_of HT_.out (by kernel_rfl)) (fun _ _ _ h => h) (Or.inl ⟨by rfl, ?_⟩) ?_ ?_
 rotate_left
 {
 intro w'
 go_simp
 with_reducible rfl
 }
 rotate_left
 {
 simp only [Act.put, sT_, sZ_, sS_, i64_w, i32_w]
 rfl
 }
 refine pure_ (i := 43) (N := some 85) (v := ?_) (a' := ?_) #[T,T,T,T,T,T,T,T,T,T,T,T,T,T,T,T,T,T,T,T,T,T,T,T,T,T,T,T,T,T,T,T,T,T,T,T,T,T,T,T,T,T,T,T,F,F,F,F,F,F,F,F,F,F,F,F] rfl rfl (any_of HT_.out (by kernel_rfl)) (fun _ _ _ h => h) (Or.inl ⟨by rfl, ?_⟩) ?_ ?_
 rotate_left
 {
 intro w'
 go_simp
 with_reducible rfl
 }
 rotate_left
 {
 simp only [Act.put, sT_, sZ_, sS_, i64_w, i32_w]
 rfl
 }
 refine pure_ (i := 44) (N := some 86) (v := ?_) (a' := ?_) #[T,T,T,T,T,T,T,T,T,T,T,T,T,T,T,T,T,T,T,T,T,T,T,T,T,T,T,T,T,T,T,T,T,T,T,T,T,T,T,T,T,T,T,T,T,F,F,F,F,F,F,F,F,F,F,F] rfl rfl (any_of HT_.out (by kernel_rfl)) (fun _ _ _ h => h) (Or.inl ⟨by rfl, ?_⟩) ?_ ?_
 rotate_left
 {
 intro w'
 go_simp
 with_reducible rfl
 }
 rotate_left
 {
 simp only [Act.put, sT_, sZ_, sS_, i64_w, i32_w]
 rfl
 }
 refine pure_ (i := 45) (N := some 87) (v := ?_) (a' := ?_) #[T,T,T,T,T,T,T,T,T,T,T,T,T,T,T,T,T,T,T,T,T,T,T,T,T,T,T,T,T,T,T,T,T,T,T,T,T,T,T,T,T,T,T,T,T,T,F,F,F,F,F,F,F,F,F,F] rfl rfl (any_of HT_.out (by kernel_rfl)) (fun _ _ _ h => h) (Or.inl ⟨by rfl, ?_⟩) ?_ ?_
 rotate_left
 {
 intro w'
 go_simp
 with_reducible rfl
 }
 rotate_left
 {
 simp only [Act.put, sT_, sZ_, sS_, i64_w, i32_w]
 rfl
 }
 refine pure_ (i := 46) (N := some 88) (v := ?_) (a' := ?_) #[T,T,T,T,T,T,T,T,T,T,T,T,T,T,T,T,T,T,T,T,T,T,T,T,T,T,T,T,T,T,T,T,T,T,T,T,T,T,T,T,T,T,T,T,T,T,T,F,F,F,F,F,F,F,F,F] rfl rfl (any_of HT_.out (by kernel_rfl)) (fun _ _ _ h => h) (Or.inl ⟨by rfl, ?_⟩) ?_ ?_
 rotate_left
 {
 intro w'
 go_simp
 with_reducible rfl
 }
 rotate_left
 {
 simp only [Act.put, sT_, sZ_, sS_, i64_w, i32_w]
 rfl
 }
 refine pure_ (i := 48) (N := some 90) (v := ?_) (a' := ?_) #[T,T,T,T,T,T,T,T,T,T,T,T,T,T,T,T,T,T,T,T,T,T,T,T,T,T,T,T,T,T,T,T,T,T,T,T,T,T,T,T,T,T,T,T,T,T,T,F,T,F,F,F,F,F,F,F] rfl rfl (any_of HT_.out (by kernel_rfl)) (fun _ _ _ h => h) (Or.inl ⟨by rfl, ?_⟩) ?_ ?_
 rotate_left
 {
 intro w'
 go_simp
 with_reducible rfl
 }
 rotate_left
 {
 simp only [Act.put, sT_, sZ_, sS_, i64_w, i32_w]
 rfl
 }
 refine pure_ (i := 49) (N := some 91) (v := ?_) (a' := ?_) #[T,T,T,T,T,T,T,T,T,T,T,T,T,T,T,T,T,T,T,T,T,T,T,T,T,T,T,T,T,T,T,T,T,T,T,T,T,T,T,T,T,T,T,T,T,T,T,F,T,T,F,F,F,F,F,F] rfl rfl (any_of HT_.out (by kernel_rfl)) (fun _ _ _ h => h) (Or.inl ⟨by rfl, ?_⟩) ?_ ?_
 rotate_left
 {
 intro w'
 go_simp
 with_reducible rfl
 }
 rotate_left
 {
 simp only [Act.put, sT_, sZ_, sS_, i64_w, i32_w]
 rfl
 }
 refine pure_ (i := 50) (N := some 92) (v := ?_) (a' := ?_) #[T,T,T,T,T,T,T,T,T,T,T,T,T,T,T,T,T,T,T,T,T,T,T,T,T,T,T,T,T,T,T,T,T,T,T,T,T,T,T,T,T,T,T,T,T,T,T,F,T,T,T,F,F,F,F,F] rfl rfl (any_of HT_.out (by kernel_rfl)) (fun _ _ _ h => h) (Or.inl ⟨by rfl, ?_⟩) ?_ ?_
 rotate_left
 {
 intro w'
 go_simp
 with_reducible rfl
 }
 rotate_left
 {
 simp only [Act.put, sT_, sZ_, sS_, i64_w, i32_w]
 rfl
 }
 refine pure_ (i := 51) (N := some 93) (v := ?_) (a' := ?_) #[T,T,T,T,T,T,T,T,T,T,T,T,T,T,T,T,T,T,T,T,T,T,T,T,T,T,T,T,T,T,T,T,T,T,T,T,T,T,T,T,T,T,T,T,T,T,T,F,T,T,T,T,F,F,F,F] rfl rfl (any_of HT_.out (by kernel_rfl)) (fun _ _ _ h => h) (Or.inl ⟨by rfl, ?_⟩) ?_ ?_
 rotate_left
 {
 intro w'
 go_simp
 with_reducible rfl
 }
 rotate_left
 {
 simp only [Act.put, sT_, sZ_, sS_, i64_w, i32_w]
 rfl
 }
 refine take_ (i := 47) (N := some 89) (v := ?_) (a' := ?_) #[T,T,T,T,T,T,T,T,T,T,T,T,T,T,T,T,T,T,T,T,T,T,T,T,T,T,T,T,T,T,T,T,T,T,T,T,T,T,T,T,T,T,T,T,T,T,T,T,T,T,T,T,F,F,F,F] rfl rfl (take_ofW HT_.out HW_.out (by kernel_rfl)) (fun _ _ _ h => h) (Or.inl ⟨by rfl, ?_⟩) hHeld ?_ ?_
 rotate_left
 {
 rintro w' ⟨s0, s1, s2, s3, s4, s5, s6, s7, s8, s9⟩
 go_simp
 with_reducible rfl
 }
 rotate_left
 {
 simp only [Act.put, sT_, sZ_, sS_, i64_w, i32_w]
 rfl
 }
 refine take_ (i := 52) (N := some 94) (v := ?_) (a' := ?_) #[T,T,T,T,T,T,T,T,T,T,T,T,T,T,T,T,T,T,T,T,T,T,T,T,T,T,T,T,T,T,T,T,T,T,T,T,T,T,T,T,T,T,T,T,T,T,T,T,T,T,T,T,T,F,F,F] rfl rfl (take_ofW HT_.out HW_.out (by kernel_rfl)) (fun _ _ _ h => h) (Or.inl ⟨by rfl, ?_⟩) hHeld ?_ ?_
 rotate_left
 {
 rintro w' ⟨s0, s1, s2, s3, s4, s5, s6, s7, s8, s9⟩
 go_simp
 with_reducible rfl
 }
 rotate_left
 {
 simp only [Act.put, sT_, sZ_, sS_, i64_w, i32_w]
 rfl
 }
 refine pure_ (i := 53) (N := some 95) (v := ?_) (a' := ?_) #[T,T,T,T,T,T,T,T,T,T,T,T,T,T,T,T,T,T,T,T,T,T,T,T,T,T,T,T,T,T,T,T,T,T,T,T,T,T,T,T,T,T,T,T,T,T,T,T,T,T,T,T,T,T,F,F] rfl rfl (any_of HT_.out (by kernel_rfl)) (fun _ _ _ h => h) (Or.inl ⟨by rfl, ?_⟩) ?_ ?_
 rotate_left
 {
 intro w'
 go_simp
 with_reducible rfl
 }
 rotate_left
 {
 simp only [Act.put, sT_, sZ_, sS_, i64_w, i32_w]
 rfl
 }
 refine pure_ (i := 54) (N := some 96) (v := ?_) (a' := ?_) #[T,T,T,T,T,T,T,T,T,T,T,T,T,T,T,T,T,T,T,T,T,T,T,T,T,T,T,T,T,T,T,T,T,T,T,T,T,T,T,T,T,T,T,T,T,T,T,T,T,T,T,T,T,T,T,F] rfl rfl (any_of HT_.out (by kernel_rfl)) (fun _ _ _ h => h) (Or.inl ⟨by rfl, ?_⟩) ?_ ?_
 rotate_left
 {
 intro w'
 go_simp
 with_reducible rfl
 }
 rotate_left
 {
 simp only [Act.put, sT_, sZ_, sS_, i64_w, i32_w]
 rfl
 }
 refine pure_ (i := 55) (N := some 97) (v := ?_) (a' := ?_) #[T,T,T,T,T,T,T,T,T,T,T,T,T,T,T,T,T,T,T,T,T,T,T,T,T,T,T,T,T,T,T,T,T,T,T,T,T,T,T,T,T,T,T,T,T,T,T,T,T,T,T,T,T,T,T,T] rfl rfl (any_of HT_.out (by kernel_rfl)) (fun _ _ _ h => h) (Or.inl ⟨by rfl, ?_⟩) ?_ ?_
 rotate_left
 {
 intro w'
 go_simp
 with_reducible rfl
 }
 rotate_left
 {
 simp only [Act.put, sT_, sZ_, sS_, i64_w, i32_w]
 rfl
 }
 refine done_ (done_of HT_.out (by kernel_rfl)) ?_
 try go_wp2
 go_meet
 case rel => exact ⟨_, (decide ((rd ((rd_T35 t226 x10_1).f1) x12_2) ≤ (rd ((rd_T35 t226 x10_1).f1) (ji34)))), (by first | rfl | (simp; done) | (simp only [← hji34] <;> (first | rfl | (simp; done))) | (simp [*]; done)), H', ⟨by have := HK1.out; have := HK2.out; first | omega | exact Nat.le_refl _⟩, ⟨by (with_reducible repeat (first | apply Kd.S_alloc | apply Kd.S_drewN | apply Kd.S_drew)); exact HO_5.out⟩, ⟨by (with_reducible repeat (first | apply Kd.S_alloc | apply Kd.S_drewN | apply Kd.S_drew)); exact HO_6.out⟩, ⟨by (with_reducible repeat (first | apply Kd.R_alloc | apply Kd.R_drewN | apply Kd.R_drew)); exact HO_7.out⟩, ⟨by (with_reducible repeat (first | apply Kd.R_alloc | apply Kd.R_drewN | apply Kd.R_drew)); exact HO_8.out⟩, ⟨by (with_reducible repeat (first | apply Kd.S_alloc | apply Kd.S_drewN | apply Kd.S_drew)); exact HO_9.out⟩, ⟨by repeat (first | (with_reducible exact HR239_1.out) | (with_reducible refine Kd.C_alloc ?_ _) | (with_reducible refine Kd.C_drewN ?_ _) | (with_reducible refine Kd.C_drew ?_) | exact HR239_1.out)⟩, ⟨by repeat (first | (with_reducible first | exact HB.out | apply below_alloc | apply pw_below_drewN | apply below_drew1) | exact HB.out)⟩⟩
 }
 {
 rw [if_neg c36] at H
 exact absurd H (by simp)
 }
 }
 {
 rw [if_neg c35] at H
 exact absurd H (by simp)
 }
 }
 as_aux_lemma => {
 rw [if_neg c33] at H
 have c33b0 : decide (0 < x12_2) = false := decide_eq_false c33
 clear c33
 have H' := Aside0.mk H
 clear H
 try go_wp2
 have n0_ := Aside0.mk (Kd.S_drew HO_5.out)
 have n1_ := Aside0.mk (Kd.S_drew HO_6.out)
 have n2_ := Aside0.mk (Kd.R_drew HO_7.out)
 have n3_ := Aside0.mk (Kd.R_drew HO_8.out)
 have n4_ := Aside0.mk (Kd.S_drew HO_9.out)
 have n5_ := Aside0.mk (Kd.C_drew HR239_1.out)
 have n6_ := Aside0.mk (below_drew1 HB.out)
 clear HO_5
 clear HO_6
 clear HO_7
 clear HO_8
 clear HO_9
 clear HR239_1
 clear HB
 have HO_5 := n0_
 have HO_6 := n1_
 have HO_7 := n2_
 have HO_8 := n3_
 have HO_9 := n4_
 have HR239_1 := n5_
 have HB := n6_
 clear n0_ n1_ n2_ n3_ n4_ n5_ n6_
 have p244 : 0 ≤ (x12_2 : Int) := oD (by first | (with_reducible assumption) | assumption)
 have q244 : x12_2 < (((rd_T35 t226 x10_1).f1).length : Int) := oD (by first | (with_reducible assumption) | assumption)
 obtain ⟨ad244, e244, hx244_0⟩ := Kd.at_int (by repeat (first | (with_reducible exact HR239_1.out) | (with_reducible refine Kd.C_alloc ?_ _) | (with_reducible refine Kd.C_drewN ?_ _) | (with_reducible refine Kd.C_drew ?_) | exact HR239_1.out)) x12_2 p244 q244
 cases e244
 replace p244 := eq_true p244
 replace q244 := eq_true q244
 have p245 : 0 ≤ (x12_2 : Int) := oD (by first | (with_reducible assumption) | assumption)
 have q245 : x12_2 < (((rd_T35 t226 x10_1).f1).length : Int) := oD (by first | (with_reducible assumption) | assumption)
 obtain ⟨ad245, e245, hx245_0⟩ := Kd.at_int (by repeat (first | (with_reducible exact HR239_1.out) | (with_reducible refine Kd.C_alloc ?_ _) | (with_reducible refine Kd.C_drewN ?_ _) | (with_reducible refine Kd.C_drew ?_) | exact HR239_1.out)) x12_2 p245 q245
 obtain rfl : ad244 = ad245 := (by injection e245)
 replace p245 := eq_true p245
 replace q245 := eq_true q245
 have p246 : 0 ≤ (x12_2 : Int) := oD (by first | (with_reducible assumption) | assumption)
 have q246 : x12_2 < (((rd_T35 t226 x10_1).f1).length : Int) := oD (by first | (with_reducible assumption) | assumption)
 obtain ⟨ad246, e246, hx246_0⟩ := Kd.at_int (by repeat (first | (with_reducible exact HR239_1.out) | (with_reducible refine Kd.C_alloc ?_ _) | (with_reducible refine Kd.C_drewN ?_ _) | (with_reducible refine Kd.C_drew ?_) | exact HR239_1.out)) x12_2 p246 q246
 obtain rfl : ad244 = ad246 := (by injection e246)
 replace p246 := eq_true p246
 replace q246 := eq_true q246
 obtain ⟨Ao41, co41, eo41⟩ := Kd.R_slice HO_8.out
 (first | subst eo41 | (injection eo41 with f1_ f2_ f3_; have f4_ := f1_.symm; have f5_ := f3_.symm; clear f1_ f2_ f3_; subst f4_; subst f5_))
 have p247 : 0 ≤ ((rd ((rd_T35 t226 x10_1).f1) x12_2) : Int) := oD (by first | (with_reducible assumption) | assumption)
 have q247 : (rd ((rd_T35 t226 x10_1).f1) x12_2) < (t232.length : Int) := oD (by first | (with_reducible assumption) | assumption)
 obtain ⟨ad247, e247, hx247_0⟩ := Kd.at_bool (Kd.R_reads' HO_8.out).2.2 (rd ((rd_T35 t226 x10_1).f1) x12_2) p247 q247
 (try rw [← Nbq26.out] at hx247_0)
 cases e247
 replace p247 := eq_true p247
 replace q247 := eq_true q247
 have p248 : 0 ≤ (x12_2 : Int) := oD (by first | (with_reducible assumption) | assumption)
 have q248 : x12_2 < (((rd_T35 t226 x10_1).f1).length : Int) := oD (by first | (with_reducible assumption) | assumption)
 obtain ⟨ad248, e248, hx248_0⟩ := Kd.at_int (by repeat (first | (with_reducible exact HR239_1.out) | (with_reducible refine Kd.C_alloc ?_ _) | (with_reducible refine Kd.C_drewN ?_ _) | (with_reducible refine Kd.C_drew ?_) | exact HR239_1.out)) x12_2 p248 q248
 obtain rfl : ad244 = ad248 := (by injection e248)
 replace p248 := eq_true p248
 replace q248 := eq_true q248
 obtain ⟨Ao42, co42, eo42⟩ := Kd.R_slice HO_7.out
 (first | subst eo42 | (injection eo42 with f1_ f2_ f3_; have f4_ := f1_.symm; have f5_ := f3_.symm; clear f1_ f2_ f3_; subst f4_; subst f5_))
 have p249 : 0 ≤ ((rd ((rd_T35 t226 x10_1).f1) x12_2) : Int) := oD (by first | (with_reducible assumption) | assumption)
 have q249 : (rd ((rd_T35 t226 x10_1).f1) x12_2) < (t229.length : Int) := oD (by first | (with_reducible assumption) | assumption)
 obtain ⟨ad249, e249, hx249_0⟩ := Kd.at_int (Kd.R_reads' HO_7.out).2.2 (rd ((rd_T35 t226 x10_1).f1) x12_2) p249 q249
 cases e249
 replace p249 := eq_true p249
 replace q249 := eq_true q249
 have p250 : 0 ≤ (x10_1 : Int) := oD (by first | (with_reducible assumption) | assumption)
 have q250 : x10_1 < (t226.length : Int) := oD (by first | (with_reducible assumption) | assumption)
 obtain ⟨ad250, A250_1, c250_1, e250, hx250_0, hx250_1, hl250_1, hi250_1⟩ := at_T35 (Kd.S_reads' HO_6.out).2.2 x10_1 p250 q250
 obtain rfl : ad239 = ad250 := (by injection e250)
 obtain ⟨ce250, hce250, hMe250, hcc250⟩ := Kd.S_get HO_6.out z35 x10_1 p250 (by first | exact q250 | exact oD (by first | (with_reducible assumption) | assumption) | (have e_ := (Kd.S_reads' HO_6.out).1; omega))
 obtain ⟨ve250_1, rfl, ge250_1⟩ := k35_openM hMe250
 have hv250_1 := hcc250 1 _ rfl
 rw [add_field _ _ 1 (by omega)] at hv250_1
 replace hv250_1 := Option.some.inj (hv250_1.symm.trans hx250_1)
 rw [hv250_1] at ge250_1
 have HL250_1 := Aside0.mk (show Kd.R (Kd.int .i64) 3 _ _ _ _ ((rd_T35 t226 x10_1).f1) from ge250_1)
 clear hv250_1 ge250_1
 clear hcc250 hce250
 have HR250_1 := Aside0.mk hi250_1
 have HC250_1 := Aside0.mk hl250_1
 clear hi250_1 hl250_1
 replace p250 := eq_true p250
 replace q250 := eq_true q250
 refine start_ (n := 56) (S := fun w' => w'.cell? (ad244.add (x12_2).toNat) = some (.int .i64 (rd ((rd_T35 t226 x10_1).f1) x12_2)) ∧ w'.cell? (ad244.add (x12_2).toNat) = some (.int .i64 (rd ((rd_T35 t226 x10_1).f1) x12_2)) ∧ w'.cell? (ad244.add (x12_2).toNat) = some (.int .i64 (rd ((rd_T35 t226 x10_1).f1) x12_2)) ∧ w'.cell? (ad247.add ((rd ((rd_T35 t226 x10_1).f1) x12_2)).toNat) = some (.bool true) ∧ w'.cell? (ad244.add (x12_2).toNat) = some (.int .i64 (rd ((rd_T35 t226 x10_1).f1) x12_2)) ∧ w'.cell? (ad249.add ((rd ((rd_T35 t226 x10_1).f1) x12_2)).toNat) = some (.int .u64 (rd t229 (rd ((rd_T35 t226 x10_1).f1) x12_2))) ∧ w'.cell? (ad239.add ((x10_1).toNat * 2)) = some (.int .i64 ((rd_T35 t226 x10_1).f0)) ∧ w'.cell? ⟨(ad239.add ((x10_1).toNat * 2)).block, (ad239.add ((x10_1).toNat * 2)).off + 1, none⟩ = some (.slice A250_1 ((rd_T35 t226 x10_1).f1).length c250_1)) (ds := []) #[F,F,F,F,F,F,F,F,F,F,F,F,F,F,F,F,F,F,F,F,F,F,F,F,F,F,F,F,F,F,F,F,F,F,F,F,F,F,F,F,F,F,F,F,F,F,F,F,F,F,F,F,F,F,F,F] (by kernel_rfl) rfl rfl ⟨hx244_0, hx245_0, hx246_0, hx247_0, hx248_0, hx249_0, hx250_0, hx250_1⟩ (fun hHeld => ?_); refine with_tabW interlocklaw12_LoopInto.tab13 interlocklaw12_LoopInto.bits13 (fun HT_ HW_ => ?_)
 generalize wr.drew = w40 at HO_5 HO_6 HO_7 HO_8 HO_9 HR239_1 HB HL250_1 HR250_1 hx244_0 hx245_0 hx246_0 hx247_0 hx248_0 hx249_0 hx250_0 hx250_1 hHeld ⊢
 refine pure_ (i := 0) (N := some 42) (v := ?_) (a' := ?_) #[T,F,F,F,F,F,F,F,F,F,F,F,F,F,F,F,F,F,F,F,F,F,F,F,F,F,F,F,F,F,F,F,F,F,F,F,F,F,F,F,F,F,F,F,F,F,F,F,F,F,F,F,F,F,F,F] rfl rfl (any_of HT_.out (by kernel_rfl)) (fun _ _ _ h => h) (Or.inl ⟨by rfl, ?_⟩) ?_ ?_
 rotate_left
 {
 intro w'
 go_simp
 with_reducible rfl
 }
 rotate_left
 {
 simp only [Act.put, sT_, sZ_, sS_, i64_w, i32_w]
 rfl
 }
 refine pure_ (i := 1) (N := some 43) (v := ?_) (a' := ?_) #[T,T,F,F,F,F,F,F,F,F,F,F,F,F,F,F,F,F,F,F,F,F,F,F,F,F,F,F,F,F,F,F,F,F,F,F,F,F,F,F,F,F,F,F,F,F,F,F,F,F,F,F,F,F,F,F] rfl rfl (any_of HT_.out (by kernel_rfl)) (fun _ _ _ h => h) (Or.inl ⟨by rfl, ?_⟩) ?_ ?_
 rotate_left
 {
 intro w'
 go_simp
 with_reducible rfl
 }
 rotate_left
 {
 simp only [Act.put, sT_, sZ_, sS_, i64_w, i32_w]
 rfl
 }
 refine pure_ (i := 2) (N := some 44) (v := ?_) (a' := ?_) #[T,T,T,F,F,F,F,F,F,F,F,F,F,F,F,F,F,F,F,F,F,F,F,F,F,F,F,F,F,F,F,F,F,F,F,F,F,F,F,F,F,F,F,F,F,F,F,F,F,F,F,F,F,F,F,F] rfl rfl (any_of HT_.out (by kernel_rfl)) (fun _ _ _ h => h) (Or.inl ⟨by rfl, ?_⟩) ?_ ?_
 rotate_left
 {
 intro w'
 go_simp
 with_reducible rfl
 }
 rotate_left
 {
 simp only [Act.put, sT_, sZ_, sS_, i64_w, i32_w]
 rfl
 }
 refine take_ (i := 3) (N := some 45) (v := ?_) (a' := ?_) #[T,T,T,T,F,F,F,F,F,F,F,F,F,F,F,F,F,F,F,F,F,F,F,F,F,F,F,F,F,F,F,F,F,F,F,F,F,F,F,F,F,F,F,F,F,F,F,F,F,F,F,F,F,F,F,F] rfl rfl (take_ofW HT_.out HW_.out (by kernel_rfl)) (fun _ _ _ h => h) (Or.inl ⟨by rfl, ?_⟩) hHeld ?_ ?_
 rotate_left
 {
 rintro w' ⟨s0, s1, s2, s3, s4, s5, s6, s7⟩
 go_simp
 with_reducible rfl
 }
 rotate_left
 {
 simp only [Act.put, sT_, sZ_, sS_, i64_w, i32_w]
 rfl
 }
 refine pure_ (i := 4) (N := some 46) (v := ?_) (a' := ?_) #[T,T,T,T,T,F,F,F,F,F,F,F,F,F,F,F,F,F,F,F,F,F,F,F,F,F,F,F,F,F,F,F,F,F,F,F,F,F,F,F,F,F,F,F,F,F,F,F,F,F,F,F,F,F,F,F] rfl rfl (any_of HT_.out (by kernel_rfl)) (fun _ _ _ h => h) (Or.inl ⟨by rfl, ?_⟩) ?_ ?_
 rotate_left
 {
 intro w'
 go_simp
 with_reducible rfl
 }
 rotate_left
 {
 simp only [Act.put, sT_, sZ_, sS_, i64_w, i32_w]
 rfl
 }
 refine pure_ (i := 5) (N := some 47) (v := ?_) (a' := ?_) #[T,T,T,T,T,T,F,F,F,F,F,F,F,F,F,F,F,F,F,F,F,F,F,F,F,F,F,F,F,F,F,F,F,F,F,F,F,F,F,F,F,F,F,F,F,F,F,F,F,F,F,F,F,F,F,F] rfl rfl (any_of HT_.out (by kernel_rfl)) (fun _ _ _ h => h) (Or.inl ⟨by rfl, ?_⟩) ?_ ?_
 rotate_left
 {
 intro w'
 go_simp
 with_reducible rfl
 }
 rotate_left
 {
 simp only [Act.put, sT_, sZ_, sS_, i64_w, i32_w]
 rfl
 }
 refine pure_ (i := 6) (N := some 48) (v := ?_) (a' := ?_) #[T,T,T,T,T,T,T,F,F,F,F,F,F,F,F,F,F,F,F,F,F,F,F,F,F,F,F,F,F,F,F,F,F,F,F,F,F,F,F,F,F,F,F,F,F,F,F,F,F,F,F,F,F,F,F,F] rfl rfl (any_of HT_.out (by kernel_rfl)) (fun _ _ _ h => h) (Or.inl ⟨by rfl, ?_⟩) ?_ ?_
 rotate_left
 {
 intro w'
 go_simp
 with_reducible rfl
 }
 rotate_left
 {
 simp only [Act.put, sT_, sZ_, sS_, i64_w, i32_w]
 rfl
 }
 refine pure_ (i := 7) (N := some 49) (v := ?_) (a' := ?_) #[T,T,T,T,T,T,T,T,F,F,F,F,F,F,F,F,F,F,F,F,F,F,F,F,F,F,F,F,F,F,F,F,F,F,F,F,F,F,F,F,F,F,F,F,F,F,F,F,F,F,F,F,F,F,F,F] rfl rfl (any_of HT_.out (by kernel_rfl)) (fun _ _ _ h => h) (Or.inl ⟨by rfl, ?_⟩) ?_ ?_
 rotate_left
 {
 intro w'
 go_simp
 with_reducible rfl
 }
 rotate_left
 {
 simp only [Act.put, sT_, sZ_, sS_, i64_w, i32_w]
 rfl
 }
 refine pure_ (i := 8) (N := some 50) (v := ?_) (a' := ?_) #[T,T,T,T,T,T,T,T,T,F,F,F,F,F,F,F,F,F,F,F,F,F,F,F,F,F,F,F,F,F,F,F,F,F,F,F,F,F,F,F,F,F,F,F,F,F,F,F,F,F,F,F,F,F,F,F] rfl rfl (any_of HT_.out (by kernel_rfl)) (fun _ _ _ h => h) (Or.inl ⟨by rfl, ?_⟩) ?_ ?_
 rotate_left
 {
 intro w'
 go_simp
 with_reducible rfl
 }
 rotate_left
 {
 simp only [Act.put, sT_, sZ_, sS_, i64_w, i32_w]
 rfl
 }
 refine pure_ (i := 10) (N := some 52) (v := ?_) (a' := ?_) #[T,T,T,T,T,T,T,T,T,F,T,F,F,F,F,F,F,F,F,F,F,F,F,F,F,F,F,F,F,F,F,F,F,F,F,F,F,F,F,F,F,F,F,F,F,F,F,F,F,F,F,F,F,F,F,F] rfl rfl (any_of HT_.out (by kernel_rfl)) (fun _ _ _ h => h) (Or.inl ⟨by rfl, ?_⟩) ?_ ?_
 rotate_left
 {
 intro w'
 go_simp
 with_reducible rfl
 }
 rotate_left
 {
 simp only [Act.put, sT_, sZ_, sS_, i64_w, i32_w]
 rfl
 }
 refine pure_ (i := 11) (N := some 53) (v := ?_) (a' := ?_) #[T,T,T,T,T,T,T,T,T,F,T,T,F,F,F,F,F,F,F,F,F,F,F,F,F,F,F,F,F,F,F,F,F,F,F,F,F,F,F,F,F,F,F,F,F,F,F,F,F,F,F,F,F,F,F,F] rfl rfl (any_of HT_.out (by kernel_rfl)) (fun _ _ _ h => h) (Or.inl ⟨by rfl, ?_⟩) ?_ ?_
 rotate_left
 {
 intro w'
 go_simp
 with_reducible rfl
 }
 rotate_left
 {
 simp only [Act.put, sT_, sZ_, sS_, i64_w, i32_w]
 rfl
 }
 refine take_ (i := 9) (N := some 51) (v := ?_) (a' := ?_) #[T,T,T,T,T,T,T,T,T,T,T,T,F,F,F,F,F,F,F,F,F,F,F,F,F,F,F,F,F,F,F,F,F,F,F,F,F,F,F,F,F,F,F,F,F,F,F,F,F,F,F,F,F,F,F,F] rfl rfl (take_ofW HT_.out HW_.out (by kernel_rfl)) (fun _ _ _ h => h) (Or.inl ⟨by rfl, ?_⟩) hHeld ?_ ?_
 rotate_left
 {
 rintro w' ⟨s0, s1, s2, s3, s4, s5, s6, s7⟩
 go_simp
 with_reducible rfl
 }
 rotate_left
 {
 simp only [Act.put, sT_, sZ_, sS_, i64_w, i32_w]
 rfl
 }
 refine pure_ (i := 12) (N := some 54) (v := ?_) (a' := ?_) #[T,T,T,T,T,T,T,T,T,T,T,T,T,F,F,F,F,F,F,F,F,F,F,F,F,F,F,F,F,F,F,F,F,F,F,F,F,F,F,F,F,F,F,F,F,F,F,F,F,F,F,F,F,F,F,F] rfl rfl (any_of HT_.out (by kernel_rfl)) (fun _ _ _ h => h) (Or.inl ⟨by rfl, ?_⟩) ?_ ?_
 rotate_left
 {
 intro w'
 go_simp
 with_reducible rfl
 }
 rotate_left
 {
 simp only [Act.put, sT_, sZ_, sS_, i64_w, i32_w]
 rfl
 }
 refine pure_ (i := 13) (N := some 55) (v := ?_) (a' := ?_) #[T,T,T,T,T,T,T,T,T,T,T,T,T,T,F,F,F,F,F,F,F,F,F,F,F,F,F,F,F,F,F,F,F,F,F,F,F,F,F,F,F,F,F,F,F,F,F,F,F,F,F,F,F,F,F,F] rfl rfl (any_of HT_.out (by kernel_rfl)) (fun _ _ _ h => h) (Or.inl ⟨by rfl, ?_⟩) ?_ ?_
 rotate_left
 {
 intro w'
 go_simp
 with_reducible rfl
 }
 rotate_left
 {
 simp only [Act.put, sT_, sZ_, sS_, i64_w, i32_w]
 rfl
 }
 refine pure_ (i := 14) (N := some 56) (v := ?_) (a' := ?_) #[T,T,T,T,T,T,T,T,T,T,T,T,T,T,T,F,F,F,F,F,F,F,F,F,F,F,F,F,F,F,F,F,F,F,F,F,F,F,F,F,F,F,F,F,F,F,F,F,F,F,F,F,F,F,F,F] rfl rfl (any_of HT_.out (by kernel_rfl)) (fun _ _ _ h => h) (Or.inl ⟨by rfl, ?_⟩) ?_ ?_
 rotate_left
 {
 intro w'
 go_simp
 with_reducible rfl
 }
 rotate_left
 {
 simp only [Act.put, sT_, sZ_, sS_, i64_w, i32_w]
 rfl
 }
 refine pure_ (i := 15) (N := some 57) (v := ?_) (a' := ?_) #[T,T,T,T,T,T,T,T,T,T,T,T,T,T,T,T,F,F,F,F,F,F,F,F,F,F,F,F,F,F,F,F,F,F,F,F,F,F,F,F,F,F,F,F,F,F,F,F,F,F,F,F,F,F,F,F] rfl rfl (any_of HT_.out (by kernel_rfl)) (fun _ _ _ h => h) (Or.inl ⟨by rfl, ?_⟩) ?_ ?_
 rotate_left
 {
 intro w'
 go_simp
 with_reducible rfl
 }
 rotate_left
 {
 simp only [Act.put, sT_, sZ_, sS_, i64_w, i32_w]
 rfl
 }
 refine pure_ (i := 16) (N := some 58) (v := ?_) (a' := ?_) #[T,T,T,T,T,T,T,T,T,T,T,T,T,T,T,T,T,F,F,F,F,F,F,F,F,F,F,F,F,F,F,F,F,F,F,F,F,F,F,F,F,F,F,F,F,F,F,F,F,F,F,F,F,F,F,F] rfl rfl (any_of HT_.out (by kernel_rfl)) (fun _ _ _ h => h) (Or.inl ⟨by rfl, ?_⟩) ?_ ?_
 rotate_left
 {
 intro w'
 go_simp
 with_reducible rfl
 }
 rotate_left
 {
 simp only [Act.put, sT_, sZ_, sS_, i64_w, i32_w]
 rfl
 }
 refine pure_ (i := 17) (N := some 59) (v := ?_) (a' := ?_) #[T,T,T,T,T,T,T,T,T,T,T,T,T,T,T,T,T,T,F,F,F,F,F,F,F,F,F,F,F,F,F,F,F,F,F,F,F,F,F,F,F,F,F,F,F,F,F,F,F,F,F,F,F,F,F,F] rfl rfl (any_of HT_.out (by kernel_rfl)) (fun _ _ _ h => h) (Or.inl ⟨by rfl, ?_⟩) ?_ ?_
 rotate_left
 {
 intro w'
 go_simp
 with_reducible rfl
 }
 rotate_left
 {
 simp only [Act.put, sT_, sZ_, sS_, i64_w, i32_w]
 rfl
 }
 refine pure_ (i := 18) (N := some 60) (v := ?_) (a' := ?_) #[T,T,T,T,T,T,T,T,T,T,T,T,T,T,T,T,T,T,T,F,F,F,F,F,F,F,F,F,F,F,F,F,F,F,F,F,F,F,F,F,F,F,F,F,F,F,F,F,F,F,F,F,F,F,F,F] rfl rfl (any_of HT_.out (by kernel_rfl)) (fun _ _ _ h => h) (Or.inl ⟨by rfl, ?_⟩) ?_ ?_
 rotate_left
 {
 intro w'
 go_simp
 with_reducible rfl
 }
 rotate_left
 {
 simp only [Act.put, sT_, sZ_, sS_, i64_w, i32_w]
 rfl
 }
 refine take_ (i := 19) (N := some 61) (v := ?_) (a' := ?_) #[T,T,T,T,T,T,T,T,T,T,T,T,T,T,T,T,T,T,T,T,F,F,F,F,F,F,F,F,F,F,F,F,F,F,F,F,F,F,F,F,F,F,F,F,F,F,F,F,F,F,F,F,F,F,F,F] rfl rfl (take_ofW HT_.out HW_.out (by kernel_rfl)) (fun _ _ _ h => h) (Or.inl ⟨by rfl, ?_⟩) hHeld ?_ ?_
 rotate_left
 {
 rintro w' ⟨s0, s1, s2, s3, s4, s5, s6, s7⟩
 go_simp
 with_reducible rfl
 }
 rotate_left
 {
 simp only [Act.put, sT_, sZ_, sS_, i64_w, i32_w]
 rfl
 }
 refine pure_ (i := 20) (N := some 62) (v := ?_) (a' := ?_) #[T,T,T,T,T,T,T,T,T,T,T,T,T,T,T,T,T,T,T,T,T,F,F,F,F,F,F,F,F,F,F,F,F,F,F,F,F,F,F,F,F,F,F,F,F,F,F,F,F,F,F,F,F,F,F,F] rfl rfl (any_of HT_.out (by kernel_rfl)) (fun _ _ _ h => h) (Or.inl ⟨by rfl, ?_⟩) ?_ ?_
 rotate_left
 {
 intro w'
 go_simp
 with_reducible rfl
 }
 rotate_left
 {
 simp only [Act.put, sT_, sZ_, sS_, i64_w, i32_w]
 rfl
 }
 refine take_ (i := 21) (N := some 63) (v := ?_) (a' := ?_) #[T,T,T,T,T,T,T,T,T,T,T,T,T,T,T,T,T,T,T,T,T,T,F,F,F,F,F,F,F,F,F,F,F,F,F,F,F,F,F,F,F,F,F,F,F,F,F,F,F,F,F,F,F,F,F,F] rfl rfl (take_ofW HT_.out HW_.out (by kernel_rfl)) (fun _ _ _ h => h) (Or.inl ⟨by rfl, ?_⟩) hHeld ?_ ?_
 rotate_left
 {
 rintro w' ⟨s0, s1, s2, s3, s4, s5, s6, s7⟩
 go_simp
 with_reducible rfl
 }
 rotate_left
 {
 simp only [Act.put, sT_, sZ_, sS_, i64_w, i32_w]
 rfl
 }
 refine pure_ (i := 22) (N := some 64) (v := ?_) (a' := ?_) #[T,T,T,T,T,T,T,T,T,T,T,T,T,T,T,T,T,T,T,T,T,T,T,F,F,F,F,F,F,F,F,F,F,F,F,F,F,F,F,F,F,F,F,F,F,F,F,F,F,F,F,F,F,F,F,F] rfl rfl (any_of HT_.out (by kernel_rfl)) (fun _ _ _ h => h) (Or.inl ⟨by rfl, ?_⟩) ?_ ?_
 rotate_left
 {
 intro w'
 go_simp
 with_reducible rfl
 }
 rotate_left
 {
 simp only [Act.put, sT_, sZ_, sS_, i64_w, i32_w]
 rfl
 }
 refine pure_ (i := 23) (N := some 65) (v := ?_) (a' := ?_) #[T,T,T,T,T,T,T,T,T,T,T,T,T,T,T,T,T,T,T,T,T,T,T,T,F,F,F,F,F,F,F,F,F,F,F,F,F,F,F,F,F,F,F,F,F,F,F,F,F,F,F,F,F,F,F,F] rfl rfl (any_of HT_.out (by kernel_rfl)) (fun _ _ _ h => h) (Or.inl ⟨by rfl, ?_⟩) ?_ ?_
 rotate_left
 {
 intro w'
 go_simp
 with_reducible rfl
 }
 rotate_left
 {
 simp only [Act.put, sT_, sZ_, sS_, i64_w, i32_w]
 rfl
 }
 refine pure_ (i := 24) (N := some 66) (v := ?_) (a' := ?_) #[T,T,T,T,T,T,T,T,T,T,T,T,T,T,T,T,T,T,T,T,T,T,T,T,T,F,F,F,F,F,F,F,F,F,F,F,F,F,F,F,F,F,F,F,F,F,F,F,F,F,F,F,F,F,F,F] rfl rfl (any_of HT_.out (by kernel_rfl)) (fun _ _ _ h => h) (Or.inl ⟨by rfl, ?_⟩) ?_ ?_
 rotate_left
 {
 intro w'
 go_simp
 with_reducible rfl
 }
 rotate_left
 {
 simp only [Act.put, sT_, sZ_, sS_, i64_w, i32_w]
 rfl
 }
 refine pure_ (i := 25) (N := some 67) (v := ?_) (a' := ?_) #[T,T,T,T,T,T,T,T,T,T,T,T,T,T,T,T,T,T,T,T,T,T,T,T,T,T,F,F,F,F,F,F,F,F,F,F,F,F,F,F,F,F,F,F,F,F,F,F,F,F,F,F,F,F,F,F] rfl rfl (any_of HT_.out (by kernel_rfl)) (fun _ _ _ h => h) (Or.inl ⟨by rfl, ?_⟩) ?_ ?_
 rotate_left
 {
 intro w'
 go_simp
 with_reducible rfl
 }
 rotate_left
 {
 simp only [Act.put, sT_, sZ_, sS_, i64_w, i32_w]
 rfl
 }
 refine pure_ (i := 26) (N := some 68) (v := ?_) (a' := ?_) #[T,T,T,T,T,T,T,T,T,T,T,T,T,T,T,T,T,T,T,T,T,T,T,T,T,T,T,F,F,F,F,F,F,F,F,F,F,F,F,F,F,F,F,F,F,F,F,F,F,F,F,F,F,F,F,F] rfl rfl (any_of HT_.out (by kernel_rfl)) (fun _ _ _ h => h) (Or.inl ⟨by rfl, ?_⟩) ?_ ?_
 rotate_left
 {
 intro w'
 go_simp
 with_reducible rfl
 }
 rotate_left
 {
 simp only [Act.put, sT_, sZ_, sS_, i64_w, i32_w]
 rfl
 }
 refine pure_ (i := 27) (N := some 69) (v := ?_) (a' := ?_) #[T,T,T,T,T,T,T,T,T,T,T,T,T,T,T,T,T,T,T,T,T,T,T,T,T,T,T,T,F,F,F,F,F,F,F,F,F,F,F,F,F,F,F,F,F,F,F,F,F,F,F,F,F,F,F,F] rfl rfl (any_of HT_.out (by kernel_rfl)) (fun _ _ _ h => h) (Or.inl ⟨by rfl, ?_⟩) ?_ ?_
 rotate_left
 {
 intro w'
 go_simp
 with_reducible rfl
 }
 rotate_left
 {
 simp only [Act.put, sT_, sZ_, sS_, i64_w, i32_w]
 rfl
 }
 refine pure_ (i := 28) (N := some 70) (v := ?_) (a' := ?_) #[T,T,T,T,T,T,T,T,T,T,T,T,T,T,T,T,T,T,T,T,T,T,T,T,T,T,T,T,T,F,F,F,F,F,F,F,F,F,F,F,F,F,F,F,F,F,F,F,F,F,F,F,F,F,F,F] rfl rfl (any_of HT_.out (by kernel_rfl)) (fun _ _ _ h => h) (Or.inl ⟨by rfl, ?_⟩) ?_ ?_
 rotate_left
 {
 intro w'
 go_simp
 with_reducible rfl
 }
 rotate_left
 {
 simp only [Act.put, sT_, sZ_, sS_, i64_w, i32_w]
 rfl
 }
 refine pure_ (i := 32) (N := some 74) (v := ?_) (a' := ?_) #[T,T,T,T,T,T,T,T,T,T,T,T,T,T,T,T,T,T,T,T,T,T,T,T,T,T,T,T,T,F,F,F,T,F,F,F,F,F,F,F,F,F,F,F,F,F,F,F,F,F,F,F,F,F,F,F] rfl rfl (any_of HT_.out (by kernel_rfl)) (fun _ _ _ h => h) (Or.inl ⟨by rfl, ?_⟩) ?_ ?_
 rotate_left
 {
 intro w'
 go_simp
 with_reducible rfl
 }
 rotate_left
 {
 simp only [Act.put, sT_, sZ_, sS_, i64_w, i32_w]
 rfl
 }
 refine pure_ (i := 33) (N := some 75) (v := ?_) (a' := ?_) #[T,T,T,T,T,T,T,T,T,T,T,T,T,T,T,T,T,T,T,T,T,T,T,T,T,T,T,T,T,F,F,F,T,T,F,F,F,F,F,F,F,F,F,F,F,F,F,F,F,F,F,F,F,F,F,F] rfl rfl (any_of HT_.out (by kernel_rfl)) (fun _ _ _ h => h) (Or.inl ⟨by rfl, ?_⟩) ?_ ?_
 rotate_left
 {
 intro w'
 go_simp
 with_reducible rfl
 }
 rotate_left
 {
 simp only [Act.put, sT_, sZ_, sS_, i64_w, i32_w]
 rfl
 }
 refine pure_ (i := 34) (N := some 76) (v := ?_) (a' := ?_) #[T,T,T,T,T,T,T,T,T,T,T,T,T,T,T,T,T,T,T,T,T,T,T,T,T,T,T,T,T,F,F,F,T,T,T,F,F,F,F,F,F,F,F,F,F,F,F,F,F,F,F,F,F,F,F,F] rfl rfl (any_of HT_.out (by kernel_rfl)) (fun _ _ _ h => h) (Or.inl ⟨by rfl, ?_⟩) ?_ ?_
 rotate_left
 {
 intro w'
 go_simp
 with_reducible rfl
 }
 rotate_left
 {
 simp only [Act.put, sT_, sZ_, sS_, i64_w, i32_w]
 rfl
 }
 refine pure_ (i := 35) (N := some 77) (v := ?_) (a' := ?_) #[T,T,T,T,T,T,T,T,T,T,T,T,T,T,T,T,T,T,T,T,T,T,T,T,T,T,T,T,T,F,F,F,T,T,T,T,F,F,F,F,F,F,F,F,F,F,F,F,F,F,F,F,F,F,F,F] rfl rfl (any_of HT_.out (by kernel_rfl)) (fun _ _ _ h => h) (Or.inl ⟨by rfl, ?_⟩) ?_ ?_
 rotate_left
 {
 intro w'
 go_simp
 with_reducible rfl
 }
 rotate_left
 {
 simp only [Act.put, sT_, sZ_, sS_, i64_w, i32_w]
 rfl
 }
 refine take_ (i := 29) (N := some 71) (v := ?_) (a' := ?_) #[T,T,T,T,T,T,T,T,T,T,T,T,T,T,T,T,T,T,T,T,T,T,T,T,T,T,T,T,T,T,F,F,T,T,T,T,F,F,F,F,F,F,F,F,F,F,F,F,F,F,F,F,F,F,F,F] rfl rfl (take_ofW HT_.out HW_.out (by kernel_rfl)) (fun _ _ _ h => h) (Or.inl ⟨by rfl, ?_⟩) hHeld ?_ ?_
 rotate_left
 {
 rintro w' ⟨s0, s1, s2, s3, s4, s5, s6, s7⟩
 go_simp
 with_reducible rfl
 }
 rotate_left
 {
 simp only [Act.put, sT_, sZ_, sS_, i64_w, i32_w]
 rfl
 }
 refine pure_ (i := 30) (N := some 72) (v := ?_) (a' := ?_) #[T,T,T,T,T,T,T,T,T,T,T,T,T,T,T,T,T,T,T,T,T,T,T,T,T,T,T,T,T,T,T,F,T,T,T,T,F,F,F,F,F,F,F,F,F,F,F,F,F,F,F,F,F,F,F,F] rfl rfl (any_of HT_.out (by kernel_rfl)) (fun _ _ _ h => h) (Or.inl ⟨by rfl, ?_⟩) ?_ ?_
 rotate_left
 {
 intro w'
 go_simp
 with_reducible rfl
 }
 rotate_left
 {
 simp only [Act.put, sT_, sZ_, sS_, i64_w, i32_w]
 rfl
 }
 refine take_ (i := 31) (N := some 73) (v := ?_) (a' := ?_) #[T,T,T,T,T,T,T,T,T,T,T,T,T,T,T,T,T,T,T,T,T,T,T,T,T,T,T,T,T,T,T,T,T,T,T,T,F,F,F,F,F,F,F,F,F,F,F,F,F,F,F,F,F,F,F,F] rfl rfl (take_ofW HT_.out HW_.out (by kernel_rfl)) (fun _ _ _ h => h) (Or.inl ⟨by rfl, ?_⟩) hHeld ?_ ?_
 rotate_left
 {
 rintro w' ⟨s0, s1, s2, s3, s4, s5, s6, s7⟩
 go_simp
 with_reducible rfl
 }
 rotate_left
 {
 simp only [Act.put, sT_, sZ_, sS_, i64_w, i32_w]
 rfl
 }
 refine take_ (i := 36) (N := some 78) (v := ?_) (a' := ?_) #[T,T,T,T,T,T,T,T,T,T,T,T,T,T,T,T,T,T,T,T,T,T,T,T,T,T,T,T,T,T,T,T,T,T,T,T,T,F,F,F,F,F,F,F,F,F,F,F,F,F,F,F,F,F,F,F] rfl rfl (take_ofW HT_.out HW_.out (by kernel_rfl)) (fun _ _ _ h => h) (Or.inl ⟨by rfl, ?_⟩) hHeld ?_ ?_
 rotate_left
 {
 rintro w' ⟨s0, s1, s2, s3, s4, s5, s6, s7⟩
 go_simp
 with_reducible rfl
 }
 rotate_left
 {
 simp only [Act.put, sT_, sZ_, sS_, i64_w, i32_w]
 rfl
 }
 refine one_ (i := 37) (N := some 79) #[T,T,T,T,T,T,T,T,T,T,T,T,T,T,T,T,T,T,T,T,T,T,T,T,T,T,T,T,T,T,T,T,T,T,T,T,T,T,F,F,F,F,F,F,F,F,F,F,F,F,F,F,F,F,F,F] rfl rfl (one_of HT_.out (by kernel_rfl)) (by decide) (fun K hK => ?_)
 refine goes_ Tryd.func12 (by kernel_rfl) rfl #[.int .u64 (rd t229 (rd ((rd_T35 t226 x10_1).f1) x12_2)), .int .i64 ((rd_T35 t226 x10_1).f0)] (by rfl) rfl rfl (by (try simp only [List.map_toArray, List.map_cons, List.map_nil]); first | done | rfl | (simp only [List.length_drop, List.length_take]; rfl)) ?_
 with_reducible refine (interlockref01_Has.calls k2 (rd t229 (rd ((rd_T35 t226 x10_1).f1) x12_2)) ((rd_T35 t226 x10_1).f0) true _ A31.out).mono ?_
 rintro e w' ⟨rfl, ⟨nd, rfl⟩⟩
 refine ⟨_, rfl, ?_⟩
 refine hK.out _ _ ⟨hHeld.1, hHeld.2.1, hHeld.2.2.1, hHeld.2.2.2.1, hHeld.2.2.2.2.1, hHeld.2.2.2.2.2.1, hHeld.2.2.2.2.2.2.1, hHeld.2.2.2.2.2.2.2⟩ (fun hHeld => ?_)
 clear hK K
 refine norm_ (a' := ?_) ?_ ?_
 rotate_left
 {
 show Act.put _ (some 79) _ = _
 simp only [Act.put, sT_, sZ_, sS_, i64_w, i32_w]
 rfl
 }
 refine pure_ (i := 38) (N := some 80) (v := ?_) (a' := ?_) #[T,T,T,T,T,T,T,T,T,T,T,T,T,T,T,T,T,T,T,T,T,T,T,T,T,T,T,T,T,T,T,T,T,T,T,T,T,T,T,F,F,F,F,F,F,F,F,F,F,F,F,F,F,F,F,F] rfl rfl (any_of HT_.out (by kernel_rfl)) (fun _ _ _ h => h) (Or.inl ⟨by rfl, ?_⟩) ?_ ?_
 rotate_left
 {
 intro w'
 go_simp
 with_reducible rfl
 }
 rotate_left
 {
 simp only [Act.put, sT_, sZ_, sS_, i64_w, i32_w]
 rfl
 }
 refine pure_ (i := 39) (N := some 81) (v := ?_) (a' := ?_) #[T,T,T,T,T,T,T,T,T,T,T,T,T,T,T,T,T,T,T,T,T,T,T,T,T,T,T,T,T,T,T,T,T,T,T,T,T,T,T,T,F,F,F,F,F,F,F,F,F,F,F,F,F,F,F,F] rfl rfl (any_of HT_.out (by kernel_rfl)) (fun _ _ _ h => h) (Or.inl ⟨by rfl, ?_⟩) ?_ ?_
 rotate_left
 {
 intro w'
 go_simp
 with_reducible rfl
 }
 rotate_left
 {
 simp only [Act.put, sT_, sZ_, sS_, i64_w, i32_w]
 rfl
 }
 refine pure_ (i := 40) (N := some 82) (v := ?_) (a' := ?_) #[T,T,T,T,T,T,T,T,T,T,T,T,T,T,T,T,T,T,T,T,T,T,T,T,T,T,T,T,T,T,T,T,T,T,T,T,T,T,T,T,T,F,F,F,F,F,F,F,F,F,F,F,F,F,F,F] rfl rfl (any_of HT_.out (by kernel_rfl)) (fun _ _ _ h => h) (Or.inl ⟨by rfl, ?_⟩) ?_ ?_
 rotate_left
 {
 intro w'
 go_simp
 with_reducible rfl
 }
 rotate_left
 {
 simp only [Act.put, sT_, sZ_, sS_, i64_w, i32_w]
 rfl
 }
 refine pure_ (i := 41) (N := some 83) (v := ?_) (a' := ?_) #[T,T,T,T,T,T,T,T,T,T,T,T,T,T,T,T,T,T,T,T,T,T,T,T,T,T,T,T,T,T,T,T,T,T,T,T,T,T,T,T,T,T,F,F,F,F,F,F,F,F,F,F,F,F,F,F] rfl rfl (any_of HT_.out (by kernel_rfl)) (fun _ _ _ h => h) (Or.inl ⟨by rfl, ?_⟩) ?_ ?_
 rotate_left
 {
 intro w'
 go_simp
 with_reducible rfl
 }
 rotate_left
 {
 simp only [Act.put, sT_, sZ_, sS_, i64_w, i32_w]
 rfl
 }
 refine pure_ (i := 42) (N := some 84) (v := ?_) (a' := ?_) #[T,T,T,T,T,T,T,T,T,T,T,T,T,T,T,T,T,T,T,T,T,T,T,T,T,T,T,T,T,T,T,T,T,T,T,T,T,T,T,T,T,T,T,F,F,F,F,F,F,F,F,F,F,F,F,F] rfl rfl (any_of HT_.out (by kernel_rfl)) (fun _ _ _ h => h) (Or.inl ⟨by rfl, ?_⟩) ?_ ?_
 rotate_left
 {
 intro w'
 go_simp
 with_reducible rfl
 }
 rotate_left
 {
 simp only [Act.put, sT_, sZ_, sS_, i64_w, i32_w]
 rfl
 }
 refine pure_ (i := 43) (N := some 85) (v := ?_) (a' := ?_) #[T,T,T,T,T,T,T,T,T,T,T,T,T,T,T,T,T,T,T,T,T,T,T,T,T,T,T,T,T,T,T,T,T,T,T,T,T,T,T,T,T,T,T,T,F,F,F,F,F,F,F,F,F,F,F,F] rfl rfl (any_of HT_.out (by kernel_rfl)) (fun _ _ _ h => h) (Or.inl ⟨by rfl, ?_⟩) ?_ ?_
 rotate_left
 {
 intro w'
 go_simp
 with_reducible rfl
 }
 rotate_left
 {
 simp only [Act.put, sT_, sZ_, sS_, i64_w, i32_w]
 rfl
 }
 refine pure_ (i := 44) (N := some 86) (v := undef) (a' := ?_) #[T,T,T,T,T,T,T,T,T,T,T,T,T,T,T,T,T,T,T,T,T,T,T,T,T,T,T,T,T,T,T,T,T,T,T,T,T,T,T,T,T,T,T,T,T,F,F,F,F,F,F,F,F,F,F,F] rfl rfl (any_of HT_.out (by kernel_rfl)) (fun _ _ _ h => h) (Or.inr ⟨by rfl, rfl⟩) ?_ ?_
 rotate_left
 {
 simp only [Act.put, sT_, sZ_, sS_, i64_w, i32_w]
 rfl
 }
 refine pure_ (i := 45) (N := some 87) (v := undef) (a' := ?_) #[T,T,T,T,T,T,T,T,T,T,T,T,T,T,T,T,T,T,T,T,T,T,T,T,T,T,T,T,T,T,T,T,T,T,T,T,T,T,T,T,T,T,T,T,T,T,F,F,F,F,F,F,F,F,F,F] rfl rfl (any_of HT_.out (by kernel_rfl)) (fun _ _ _ h => h) (Or.inr ⟨by rfl, rfl⟩) ?_ ?_
 rotate_left
 {
 simp only [Act.put, sT_, sZ_, sS_, i64_w, i32_w]
 rfl
 }
 refine pure_ (i := 46) (N := some 88) (v := undef) (a' := ?_) #[T,T,T,T,T,T,T,T,T,T,T,T,T,T,T,T,T,T,T,T,T,T,T,T,T,T,T,T,T,T,T,T,T,T,T,T,T,T,T,T,T,T,T,T,T,T,T,F,F,F,F,F,F,F,F,F] rfl rfl (any_of HT_.out (by kernel_rfl)) (fun _ _ _ h => h) (Or.inr ⟨by rfl, rfl⟩) ?_ ?_
 rotate_left
 {
 simp only [Act.put, sT_, sZ_, sS_, i64_w, i32_w]
 rfl
 }
 refine pure_ (i := 47) (N := some 89) (v := undef) (a' := ?_) #[T,T,T,T,T,T,T,T,T,T,T,T,T,T,T,T,T,T,T,T,T,T,T,T,T,T,T,T,T,T,T,T,T,T,T,T,T,T,T,T,T,T,T,T,T,T,T,T,F,F,F,F,F,F,F,F] rfl rfl (any_of HT_.out (by kernel_rfl)) (fun _ _ _ h => h) (Or.inr ⟨by rfl, rfl⟩) ?_ ?_
 rotate_left
 {
 simp only [Act.put, sT_, sZ_, sS_, i64_w, i32_w]
 rfl
 }
 refine pure_ (i := 48) (N := some 90) (v := undef) (a' := ?_) #[T,T,T,T,T,T,T,T,T,T,T,T,T,T,T,T,T,T,T,T,T,T,T,T,T,T,T,T,T,T,T,T,T,T,T,T,T,T,T,T,T,T,T,T,T,T,T,T,T,F,F,F,F,F,F,F] rfl rfl (any_of HT_.out (by kernel_rfl)) (fun _ _ _ h => h) (Or.inr ⟨by rfl, rfl⟩) ?_ ?_
 rotate_left
 {
 simp only [Act.put, sT_, sZ_, sS_, i64_w, i32_w]
 rfl
 }
 refine pure_ (i := 49) (N := some 91) (v := undef) (a' := ?_) #[T,T,T,T,T,T,T,T,T,T,T,T,T,T,T,T,T,T,T,T,T,T,T,T,T,T,T,T,T,T,T,T,T,T,T,T,T,T,T,T,T,T,T,T,T,T,T,T,T,T,F,F,F,F,F,F] rfl rfl (any_of HT_.out (by kernel_rfl)) (fun _ _ _ h => h) (Or.inr ⟨by rfl, rfl⟩) ?_ ?_
 rotate_left
 {
 simp only [Act.put, sT_, sZ_, sS_, i64_w, i32_w]
 rfl
 }
 refine pure_ (i := 50) (N := some 92) (v := undef) (a' := ?_) #[T,T,T,T,T,T,T,T,T,T,T,T,T,T,T,T,T,T,T,T,T,T,T,T,T,T,T,T,T,T,T,T,T,T,T,T,T,T,T,T,T,T,T,T,T,T,T,T,T,T,T,F,F,F,F,F] rfl rfl (any_of HT_.out (by kernel_rfl)) (fun _ _ _ h => h) (Or.inr ⟨by rfl, rfl⟩) ?_ ?_
 rotate_left
 {
 simp only [Act.put, sT_, sZ_, sS_, i64_w, i32_w]
 rfl
 }
 refine pure_ (i := 51) (N := some 93) (v := undef) (a' := ?_) #[T,T,T,T,T,T,T,T,T,T,T,T,T,T,T,T,T,T,T,T,T,T,T,T,T,T,T,T,T,T,T,T,T,T,T,T,T,T,T,T,T,T,T,T,T,T,T,T,T,T,T,T,F,F,F,F] rfl rfl (any_of HT_.out (by kernel_rfl)) (fun _ _ _ h => h) (Or.inr ⟨by rfl, rfl⟩) ?_ ?_
 rotate_left
 {
 simp only [Act.put, sT_, sZ_, sS_, i64_w, i32_w]
 rfl
 }
 refine pure_ (i := 52) (N := some 94) (v := undef) (a' := ?_) #[T,T,T,T,T,T,T,T,T,T,T,T,T,T,T,T,T,T,T,T,T,T,T,T,T,T,T,T,T,T,T,T,T,T,T,T,T,T,T,T,T,T,T,T,T,T,T,T,T,T,T,T,T,F,F,F] rfl rfl (any_of HT_.out (by kernel_rfl)) (fun _ _ _ h => h) (Or.inr ⟨by rfl, rfl⟩) ?_ ?_
 rotate_left
 {
 simp only [Act.put, sT_, sZ_, sS_, i64_w, i32_w]
 rfl
 }
 refine pure_ (i := 53) (N := some 95) (v := undef) (a' := ?_) #[T,T,T,T,T,T,T,T,T,T,T,T,T,T,T,T,T,T,T,T,T,T,T,T,T,T,T,T,T,T,T,T,T,T,T,T,T,T,T,T,T,T,T,T,T,T,T,T,T,T,T,T,T,T,F,F] rfl rfl (any_of HT_.out (by kernel_rfl)) (fun _ _ _ h => h) (Or.inr ⟨by rfl, rfl⟩) ?_ ?_
 rotate_left
 {
 simp only [Act.put, sT_, sZ_, sS_, i64_w, i32_w]
 rfl
 }
 refine pure_ (i := 54) (N := some 96) (v := ?_) (a' := ?_) #[T,T,T,T,T,T,T,T,T,T,T,T,T,T,T,T,T,T,T,T,T,T,T,T,T,T,T,T,T,T,T,T,T,T,T,T,T,T,T,T,T,T,T,T,T,T,T,T,T,T,T,T,T,T,T,F] rfl rfl (any_of HT_.out (by kernel_rfl)) (fun _ _ _ h => h) (Or.inl ⟨by rfl, ?_⟩) ?_ ?_
 rotate_left
 {
 intro w'
 go_simp
 with_reducible rfl
 }
 rotate_left
 {
 simp only [Act.put, sT_, sZ_, sS_, i64_w, i32_w]
 rfl
 }
 refine pure_ (i := 55) (N := some 97) (v := ?_) (a' := ?_) #[T,T,T,T,T,T,T,T,T,T,T,T,T,T,T,T,T,T,T,T,T,T,T,T,T,T,T,T,T,T,T,T,T,T,T,T,T,T,T,T,T,T,T,T,T,T,T,T,T,T,T,T,T,T,T,T] rfl rfl (any_of HT_.out (by kernel_rfl)) (fun _ _ _ h => h) (Or.inl ⟨by rfl, ?_⟩) ?_ ?_
 rotate_left
 {
 intro w'
 go_simp
 with_reducible rfl
 }
 rotate_left
 {
 simp only [Act.put, sT_, sZ_, sS_, i64_w, i32_w]
 rfl
 }
 refine done_ (done_of HT_.out (by kernel_rfl)) ?_
 try go_wp2
 go_meet
 case rel => exact ⟨_, (false), (by first | rfl | (simp; done) | (simp [*]; done)), H', ⟨by have := HK1.out; have := HK2.out; first | omega | exact Nat.le_refl _⟩, ⟨by (with_reducible repeat (first | apply Kd.S_alloc | apply Kd.S_drewN | apply Kd.S_drew)); exact HO_5.out⟩, ⟨by (with_reducible repeat (first | apply Kd.S_alloc | apply Kd.S_drewN | apply Kd.S_drew)); exact HO_6.out⟩, ⟨by (with_reducible repeat (first | apply Kd.R_alloc | apply Kd.R_drewN | apply Kd.R_drew)); exact HO_7.out⟩, ⟨by (with_reducible repeat (first | apply Kd.R_alloc | apply Kd.R_drewN | apply Kd.R_drew)); exact HO_8.out⟩, ⟨by (with_reducible repeat (first | apply Kd.S_alloc | apply Kd.S_drewN | apply Kd.S_drew)); exact HO_9.out⟩, ⟨by repeat (first | (with_reducible exact HR239_1.out) | (with_reducible refine Kd.C_alloc ?_ _) | (with_reducible refine Kd.C_drewN ?_ _) | (with_reducible refine Kd.C_drew ?_) | exact HR239_1.out)⟩, ⟨by repeat (first | (with_reducible first | exact HB.out | apply below_alloc | apply pw_below_drewN | apply below_drew1) | exact HB.out)⟩⟩
 }
 }
 {
 replace c32 := Bool.eq_false_iff.mpr c32
 subst c32
 have H1 : (none) = some r := by rw [if_neg (show ¬ (false = true) by decide)] at H; exact H
 cases H1
 }
 }
 {
 rw [if_neg c30] at H
 exact absurd H (by simp)
 }
 }
 {
 rw [if_neg c29] at H
 exact absurd H (by simp)
 }
 }
 {
 rw [if_neg c28] at H
 exact absurd H (by simp)
 }
 }
 {
 replace c27 := Bool.eq_false_iff.mpr c27
 subst c27
 have H1 : (none) = some r := by rw [if_neg (show ¬ (false = true) by decide)] at H; exact H
 cases H1
 }
 }
 {
 rw [if_neg c25] at H
 exact absurd H (by simp)
 }
 }
 {
 rw [if_neg c24] at H
 exact absurd H (by simp)
 }
 }
 }
 }
 {
 rw [if_neg c19] at H
 exact absurd H (by simp)
 }
 )
 case rest => (
 clear HC18
 try clear c1
 try clear c2
 try clear p2
 try clear q2
 try clear hx2
 try clear c3
 try clear c12
 try clear c19
 try clear c24
 try clear p24
 try clear q24
 try clear hx24
 try clear c25
 try clear q26
 try clear c27
 try clear c28
 try clear c29
 try clear c30
 try clear hx244_0
 try clear hx245_0
 try clear hx246_0
 try clear hx247_0
 try clear p244
 try clear p245
 try clear p246
 try clear p247
 try clear q244
 try clear q245
 try clear q246
 try clear q247
 obtain ⟨kq, x97_17, rfl, HA, HJ17, HO_5, HO_6, HO_7, HO_8, HO_9, HR239_1, HB⟩ := hcut
 cases kq with
 | zero => exact absurd HA.out (by simp [interlocklaw12_LoopInto.j2])
 | succ kj17 => (
 have H := HA.out
 clear HA
 simp only [interlocklaw12_LoopInto.j2] at H
 by_cases c48 : x97_17 = true
 {
 subst c48
 have H1 : (none) = some r := by rw [if_pos rfl] at H; exact H
 clear H
 have H := H1
 clear H1
 exact absurd H (by simp)
 }
 {
 replace c48 := Bool.eq_false_iff.mpr c48
 subst c48
 have H1 : (interlocklaw12_LoopInto.l2 kj17 t223 t226 t229 t232 t235 x10_1 ((rd_T35 t226 x10_1).f1) x12_2 0) = some r := by rw [if_neg (show ¬ (false = true) by decide)] at H; exact H
 clear H
 have H := H1
 clear H1
 have H' := Aside0.mk H
 clear H
 go_wp2
 go_loopg [13] kj17 (fun kq v13 w' => ∃ (x13_4 : Int), v13 = .int .i64 x13_4 ∧ Aside0 (interlocklaw12_LoopInto.l2 kq t223 t226 t229 t232 t235 x10_1 ((rd_T35 t226 x10_1).f1) x12_2 x13_4 = some r) ∧ Aside0 (kq ≤ kj17) ∧ Aside0 (Kd.S (Kd.slice 3 (Kd.int .i64)) 31 w' w.heap.size (fun k_ => some k_ ≠ (v236 : Value).ownBlock) (.slice Ao9 t223.length co9) t223) ∧ Aside0 (Kd.S k35 35 w' w.heap.size (fun _ => True) (.slice (some ad239) t226.length co16) t226) ∧ Aside0 (Kd.R (Kd.int .u64) 33 w' w.heap.size (fun _ => True) v230 t229) ∧ Aside0 (Kd.R Kd.bool 4 w' w.heap.size (fun _ => True) v233 t232) ∧ Aside0 (Kd.S (Kd.slice 3 (Kd.int .i64)) 31 w' w.heap.size (fun k_ => some k_ ≠ ((.slice Ao9 t223.length co9) : Value).ownBlock) v236 t235) ∧ Aside0 (Kd.C (Kd.int .i64) w' A239_1 ((rd_T35 t226 x10_1).f1).length ((rd_T35 t226 x10_1).f1)) ∧ Aside0 (Below w.heap.size w w'))
 case atStart => exact ⟨(0), (by first | rfl | (simp; done) | (simp [*]; done)), H', ⟨Nat.le_refl _⟩, ⟨by (with_reducible repeat (first | apply Kd.S_alloc | apply Kd.S_drewN | apply Kd.S_drew)); exact HO_5.out⟩, ⟨by (with_reducible repeat (first | apply Kd.S_alloc | apply Kd.S_drewN | apply Kd.S_drew)); exact HO_6.out⟩, ⟨by (with_reducible repeat (first | apply Kd.R_alloc | apply Kd.R_drewN | apply Kd.R_drew)); exact HO_7.out⟩, ⟨by (with_reducible repeat (first | apply Kd.R_alloc | apply Kd.R_drewN | apply Kd.R_drew)); exact HO_8.out⟩, ⟨by (with_reducible repeat (first | apply Kd.S_alloc | apply Kd.S_drewN | apply Kd.S_drew)); exact HO_9.out⟩, ⟨by repeat (first | (with_reducible exact HR239_1.out) | (with_reducible refine Kd.C_alloc ?_ _) | (with_reducible refine Kd.C_drewN ?_ _) | (with_reducible refine Kd.C_drew ?_) | exact HR239_1.out)⟩, ⟨by repeat (first | (with_reducible first | exact HB.out | apply below_alloc | apply pw_below_drewN | apply below_drew1) | exact HB.out)⟩⟩
 case round => (
 clear H'
 try clear c1
 try clear c2
 try clear p2
 try clear q2
 try clear hx2
 try clear c3
 try clear c4
 try clear c12
 try clear c19
 try clear c24
 try clear p24
 try clear q24
 try clear hx24
 try clear c25
 try clear q26
 try clear c27
 try clear c28
 try clear c29
 try clear c30
 try clear c48
 try clear hx244_0
 try clear hx245_0
 try clear hx246_0
 try clear hx247_0
 try clear p2
 try clear p24
 try clear p244
 try clear p245
 try clear p246
 try clear p247
 try clear q2
 try clear q24
 try clear q244
 try clear q245
 try clear q246
 try clear q247
 try clear q26
 obtain ⟨x13_4, rfl, HA, HK4, HO_5, HO_6, HO_7, HO_8, HO_9, HR239_1, HB⟩ := hrel
 cases gk with
 | zero => exact absurd HA.out (by simp [interlocklaw12_LoopInto.l2])
 | succ k4 => (
 have H := HA.out
 clear HA
 simp only [interlocklaw12_LoopInto.l2] at H
 have HC49 := Aside0.mk H
 clear H
 go_upto_region 16 with (fail)
 go_cut [119] (fun v119 wc => ∃ (kq : Nat) (x119_48 : Bool), v119 = .bool x119_48 ∧ Aside0 (interlocklaw12_LoopInto.j4 kq t223 t226 t229 t232 t235 x10_1 ((rd_T35 t226 x10_1).f1) x12_2 x13_4 x119_48 = some r) ∧ Aside0 (kq ≤ k4) ∧ Aside0 (Kd.S (Kd.slice 3 (Kd.int .i64)) 31 wc w.heap.size (fun k_ => some k_ ≠ (v236 : Value).ownBlock) (.slice Ao9 t223.length co9) t223) ∧ Aside0 (Kd.S k35 35 wc w.heap.size (fun _ => True) (.slice (some ad239) t226.length co16) t226) ∧ Aside0 (Kd.R (Kd.int .u64) 33 wc w.heap.size (fun _ => True) v230 t229) ∧ Aside0 (Kd.R Kd.bool 4 wc w.heap.size (fun _ => True) v233 t232) ∧ Aside0 (Kd.S (Kd.slice 3 (Kd.int .i64)) 31 wc w.heap.size (fun k_ => some k_ ≠ ((.slice Ao9 t223.length co9) : Value).ownBlock) v236 t235) ∧ Aside0 (Kd.C (Kd.int .i64) wc A239_1 ((rd_T35 t226 x10_1).f1).length ((rd_T35 t226 x10_1).f1)) ∧ Aside0 (Below w.heap.size w wc))
 case first => (
 have H := HC49.out
 clear HC49
 by_cases c50 : 0 ≤ x12_2
 {
 rw [if_pos c50] at H
 have c50b0 : decide (0 ≤ x12_2) = true := decide_eq_true c50
 clear c50
 (first | rw [c50b0] | (simp only [i64_w, i32_w]; rw [c50b0]) | skip)
 by_cases c51 : x12_2 < (((rd_T35 t226 x10_1).f1).length : Int)
 {
 rw [if_pos c51] at H
 have c51b0 : decide (x12_2 < (((rd_T35 t226 x10_1).f1).length : Int)) = true := decide_eq_true c51
 clear c51
 by_cases c52 : 0 ≤ (rd ((rd_T35 t226 x10_1).f1) x12_2)
 {
 rw [if_pos c52] at H
 have c52b0 : decide (0 ≤ (rd ((rd_T35 t226 x10_1).f1) x12_2)) = true := decide_eq_true c52
 clear c52
 by_cases c53 : (rd ((rd_T35 t226 x10_1).f1) x12_2) < (t235.length : Int)
 as_aux_lemma => {
 rw [if_pos c53] at H
 have c53b0 : decide ((rd ((rd_T35 t226 x10_1).f1) x12_2) < (t235.length : Int)) = true := decide_eq_true c53
 clear c53
 by_cases c54 : x13_4 < ((rd_L1 t235 (rd ((rd_T35 t226 x10_1).f1) x12_2)).length : Int)
 {
 rw [if_pos c54] at H
 have c54b0 : decide (x13_4 < ((rd_L1 t235 (rd ((rd_T35 t226 x10_1).f1) x12_2)).length : Int)) = true := decide_eq_true c54
 clear c54
 by_cases c55 : 0 ≤ x10_1
 {
 rw [if_pos c55] at H
 have c55b0 : decide (0 ≤ x10_1) = true := decide_eq_true c55
 clear c55
 by_cases c56 : x10_1 < (t226.length : Int)
 as_aux_lemma => {
 rw [if_pos c56] at H
 have c56b0 : decide (x10_1 < (t226.length : Int)) = true := decide_eq_true c56
 clear c56
 have H' := Aside0.mk H
 clear H
 try go_wp2
 have n0_ := Aside0.mk (Kd.S_drew HO_5.out)
 have n1_ := Aside0.mk (Kd.S_drew HO_6.out)
 have n2_ := Aside0.mk (Kd.R_drew HO_7.out)
 have n3_ := Aside0.mk (Kd.R_drew HO_8.out)
 have n4_ := Aside0.mk (Kd.S_drew HO_9.out)
 have n5_ := Aside0.mk (Kd.C_drew HR239_1.out)
 have n6_ := Aside0.mk (below_drew1 HB.out)
 clear HO_5
 clear HO_6
 clear HO_7
 clear HO_8
 clear HO_9
 clear HR239_1
 clear HB
 have HO_5 := n0_
 have HO_6 := n1_
 have HO_7 := n2_
 have HO_8 := n3_
 have HO_9 := n4_
 have HR239_1 := n5_
 have HB := n6_
 clear n0_ n1_ n2_ n3_ n4_ n5_ n6_
 have p254 : 0 ≤ (x12_2 : Int) := oD (by first | (with_reducible assumption) | assumption)
 have q254 : x12_2 < (((rd_T35 t226 x10_1).f1).length : Int) := oD (by first | (with_reducible assumption) | assumption)
 obtain ⟨ad254, e254, hx254_0⟩ := Kd.at_int (by repeat (first | (with_reducible exact HR239_1.out) | (with_reducible refine Kd.C_alloc ?_ _) | (with_reducible refine Kd.C_drewN ?_ _) | (with_reducible refine Kd.C_drew ?_) | exact HR239_1.out)) x12_2 p254 q254
 cases e254
 replace p254 := eq_true p254
 replace q254 := eq_true q254
 obtain ⟨Ao58, co58, eo58⟩ := Kd.S_slice HO_9.out
 (first | subst eo58 | (injection eo58 with f1_ f2_ f3_; have f4_ := f1_.symm; have f5_ := f3_.symm; clear f1_ f2_ f3_; subst f4_; subst f5_))
 have p255 : 0 ≤ ((rd ((rd_T35 t226 x10_1).f1) x12_2) : Int) := oD (by first | (with_reducible assumption) | assumption)
 have q255 : (rd ((rd_T35 t226 x10_1).f1) x12_2) < (t235.length : Int) := oD (by first | (with_reducible assumption) | assumption)
 obtain ⟨ad255, A255_0, c255_0, e255, hx255_0, hl255_0, hi255_0⟩ := at_L1 (Kd.S_reads' HO_9.out).2.2 (rd ((rd_T35 t226 x10_1).f1) x12_2) p255 q255
 cases e255
 obtain ⟨ce255, hce255, hMe255, hcc255⟩ := Kd.S_get HO_9.out [] (rd ((rd_T35 t226 x10_1).f1) x12_2) p255 (by first | exact q255 | exact oD (by first | (with_reducible assumption) | assumption) | (have e_ := (Kd.S_reads' HO_9.out).1; omega))
 obtain ⟨ve255_0, rfl, ge255_0⟩ := hMe255
 have hv255_0 := hcc255 0 _ rfl
 rw [Nat.add_zero, show ((Kd.slice 3 (Kd.int .i64))).sz = 1 from rfl, Nat.mul_one] at hv255_0
 replace hv255_0 := Option.some.inj (hv255_0.symm.trans hx255_0)
 rw [hv255_0] at ge255_0
 have HL255_0 := Aside0.mk (show Kd.R (Kd.int .i64) 3 _ _ _ _ (rd_L1 t235 (rd ((rd_T35 t226 x10_1).f1) x12_2)) from ge255_0)
 clear hv255_0 ge255_0
 clear hcc255 hce255
 have HR255_0 := Aside0.mk hi255_0
 have HC255_0 := Aside0.mk hl255_0
 clear hi255_0 hl255_0
 replace p255 := eq_true p255
 replace q255 := eq_true q255
 have p256 : 0 ≤ (x12_2 : Int) := oD (by first | (with_reducible assumption) | assumption)
 have q256 : x12_2 < (((rd_T35 t226 x10_1).f1).length : Int) := oD (by first | (with_reducible assumption) | assumption)
 obtain ⟨ad256, e256, hx256_0⟩ := Kd.at_int (by repeat (first | (with_reducible exact HR239_1.out) | (with_reducible refine Kd.C_alloc ?_ _) | (with_reducible refine Kd.C_drewN ?_ _) | (with_reducible refine Kd.C_drew ?_) | exact HR239_1.out)) x12_2 p256 q256
 obtain rfl : ad254 = ad256 := (by injection e256)
 replace p256 := eq_true p256
 replace q256 := eq_true q256
 have p257 : 0 ≤ (x10_1 : Int) := oD (by first | (with_reducible assumption) | assumption)
 have q257 : x10_1 < (t226.length : Int) := oD (by first | (with_reducible assumption) | assumption)
 obtain ⟨ad257, A257_1, c257_1, e257, hx257_0, hx257_1, hl257_1, hi257_1⟩ := at_T35 (Kd.S_reads' HO_6.out).2.2 x10_1 p257 q257
 obtain rfl : ad239 = ad257 := (by injection e257)
 obtain ⟨ce257, hce257, hMe257, hcc257⟩ := Kd.S_get HO_6.out z35 x10_1 p257 (by first | exact q257 | exact oD (by first | (with_reducible assumption) | assumption) | (have e_ := (Kd.S_reads' HO_6.out).1; omega))
 obtain ⟨ve257_1, rfl, ge257_1⟩ := k35_openM hMe257
 have hv257_1 := hcc257 1 _ rfl
 rw [add_field _ _ 1 (by omega)] at hv257_1
 replace hv257_1 := Option.some.inj (hv257_1.symm.trans hx257_1)
 rw [hv257_1] at ge257_1
 have HL257_1 := Aside0.mk (show Kd.R (Kd.int .i64) 3 _ _ _ _ ((rd_T35 t226 x10_1).f1) from ge257_1)
 clear hv257_1 ge257_1
 clear hcc257 hce257
 have HR257_1 := Aside0.mk hi257_1
 have HC257_1 := Aside0.mk hl257_1
 clear hi257_1 hl257_1
 replace p257 := eq_true p257
 replace q257 := eq_true q257
 refine start_ (n := 22) (S := fun w' => w'.cell? (ad254.add (x12_2).toNat) = some (.int .i64 (rd ((rd_T35 t226 x10_1).f1) x12_2)) ∧ w'.cell? (ad255.add ((rd ((rd_T35 t226 x10_1).f1) x12_2)).toNat) = some (.slice A255_0 (rd_L1 t235 (rd ((rd_T35 t226 x10_1).f1) x12_2)).length c255_0) ∧ w'.cell? (ad254.add (x12_2).toNat) = some (.int .i64 (rd ((rd_T35 t226 x10_1).f1) x12_2)) ∧ w'.cell? (ad239.add ((x10_1).toNat * 2)) = some (.int .i64 ((rd_T35 t226 x10_1).f0)) ∧ w'.cell? ⟨(ad239.add ((x10_1).toNat * 2)).block, (ad239.add ((x10_1).toNat * 2)).off + 1, none⟩ = some (.slice A257_1 ((rd_T35 t226 x10_1).f1).length c257_1)) (ds := []) #[F,F,F,F,F,F,F,F,F,F,F,F,F,F,F,F,F,F,F,F,F,F] (by kernel_rfl) rfl rfl ⟨hx254_0, hx255_0, hx256_0, hx257_0, hx257_1⟩ (fun hHeld => ?_); refine with_tabW interlocklaw12_LoopInto.tab16 interlocklaw12_LoopInto.bits16 (fun HT_ HW_ => ?_)
 generalize wr.drew = w57 at HO_5 HO_6 HO_7 HO_8 HO_9 HR239_1 HB HL255_0 HL257_1 HR255_0 HR257_1 hx254_0 hx255_0 hx256_0 hx257_0 hx257_1 hHeld ⊢
 refine pure_ (i := 0) (N := some 98) (v := ?_) (a' := ?_) #[T,F,F,F,F,F,F,F,F,F,F,F,F,F,F,F,F,F,F,F,F,F] rfl rfl (any_of HT_.out (by kernel_rfl)) (fun _ _ _ h => h) (Or.inl ⟨by rfl, ?_⟩) ?_ ?_
 rotate_left
 {
 intro w'
 go_simp
 with_reducible rfl
 }
 rotate_left
 {
 simp only [Act.put, sT_, sZ_, sS_, i64_w, i32_w]
 rfl
 }
 refine pure_ (i := 1) (N := some 99) (v := ?_) (a' := ?_) #[T,T,F,F,F,F,F,F,F,F,F,F,F,F,F,F,F,F,F,F,F,F] rfl rfl (any_of HT_.out (by kernel_rfl)) (fun _ _ _ h => h) (Or.inl ⟨by rfl, ?_⟩) ?_ ?_
 rotate_left
 {
 intro w'
 go_simp
 with_reducible rfl
 }
 rotate_left
 {
 simp only [Act.put, sT_, sZ_, sS_, i64_w, i32_w]
 rfl
 }
 refine pure_ (i := 2) (N := some 100) (v := ?_) (a' := ?_) #[T,T,T,F,F,F,F,F,F,F,F,F,F,F,F,F,F,F,F,F,F,F] rfl rfl (any_of HT_.out (by kernel_rfl)) (fun _ _ _ h => h) (Or.inl ⟨by rfl, ?_⟩) ?_ ?_
 rotate_left
 {
 intro w'
 go_simp
 with_reducible rfl
 }
 rotate_left
 {
 simp only [Act.put, sT_, sZ_, sS_, i64_w, i32_w]
 rfl
 }
 refine pure_ (i := 3) (N := some 101) (v := ?_) (a' := ?_) #[T,T,T,T,F,F,F,F,F,F,F,F,F,F,F,F,F,F,F,F,F,F] rfl rfl (any_of HT_.out (by kernel_rfl)) (fun _ _ _ h => h) (Or.inl ⟨by rfl, ?_⟩) ?_ ?_
 rotate_left
 {
 intro w'
 go_simp
 with_reducible rfl
 }
 rotate_left
 {
 simp only [Act.put, sT_, sZ_, sS_, i64_w, i32_w]
 rfl
 }
 refine pure_ (i := 4) (N := some 102) (v := ?_) (a' := ?_) #[T,T,T,T,T,F,F,F,F,F,F,F,F,F,F,F,F,F,F,F,F,F] rfl rfl (any_of HT_.out (by kernel_rfl)) (fun _ _ _ h => h) (Or.inl ⟨by rfl, ?_⟩) ?_ ?_
 rotate_left
 {
 intro w'
 go_simp
 with_reducible rfl
 }
 rotate_left
 {
 simp only [Act.put, sT_, sZ_, sS_, i64_w, i32_w]
 rfl
 }
 refine take_ (i := 5) (N := some 103) (v := ?_) (a' := ?_) #[T,T,T,T,T,T,F,F,F,F,F,F,F,F,F,F,F,F,F,F,F,F] rfl rfl (take_ofW HT_.out HW_.out (by kernel_rfl)) (fun _ _ _ h => h) (Or.inl ⟨by rfl, ?_⟩) hHeld ?_ ?_
 rotate_left
 {
 rintro w' ⟨s0, s1, s2, s3, s4⟩
 go_simp
 with_reducible rfl
 }
 rotate_left
 {
 simp only [Act.put, sT_, sZ_, sS_, i64_w, i32_w]
 rfl
 }
 refine pure_ (i := 6) (N := some 104) (v := ?_) (a' := ?_) #[T,T,T,T,T,T,T,F,F,F,F,F,F,F,F,F,F,F,F,F,F,F] rfl rfl (any_of HT_.out (by kernel_rfl)) (fun _ _ _ h => h) (Or.inl ⟨by rfl, ?_⟩) ?_ ?_
 rotate_left
 {
 intro w'
 go_simp
 with_reducible rfl
 }
 rotate_left
 {
 simp only [Act.put, sT_, sZ_, sS_, i64_w, i32_w]
 rfl
 }
 refine take_ (i := 7) (N := some 105) (v := ?_) (a' := ?_) #[T,T,T,T,T,T,T,T,F,F,F,F,F,F,F,F,F,F,F,F,F,F] rfl rfl (take_ofW HT_.out HW_.out (by kernel_rfl)) (fun _ _ _ h => h) (Or.inl ⟨by rfl, ?_⟩) hHeld ?_ ?_
 rotate_left
 {
 rintro w' ⟨s0, s1, s2, s3, s4⟩
 go_simp
 with_reducible rfl
 }
 rotate_left
 {
 simp only [Act.put, sT_, sZ_, sS_, i64_w, i32_w]
 rfl
 }
 refine pure_ (i := 8) (N := some 106) (v := ?_) (a' := ?_) #[T,T,T,T,T,T,T,T,T,F,F,F,F,F,F,F,F,F,F,F,F,F] rfl rfl (any_of HT_.out (by kernel_rfl)) (fun _ _ _ h => h) (Or.inl ⟨by rfl, ?_⟩) ?_ ?_
 rotate_left
 {
 intro w'
 go_simp
 with_reducible rfl
 }
 rotate_left
 {
 simp only [Act.put, sT_, sZ_, sS_, i64_w, i32_w]
 rfl
 }
 refine pure_ (i := 9) (N := some 107) (v := ?_) (a' := ?_) #[T,T,T,T,T,T,T,T,T,T,F,F,F,F,F,F,F,F,F,F,F,F] rfl rfl (any_of HT_.out (by kernel_rfl)) (fun _ _ _ h => h) (Or.inl ⟨by rfl, ?_⟩) ?_ ?_
 rotate_left
 {
 intro w'
 go_simp
 with_reducible rfl
 }
 rotate_left
 {
 simp only [Act.put, sT_, sZ_, sS_, i64_w, i32_w]
 rfl
 }
 refine pure_ (i := 10) (N := some 108) (v := ?_) (a' := ?_) #[T,T,T,T,T,T,T,T,T,T,T,F,F,F,F,F,F,F,F,F,F,F] rfl rfl (any_of HT_.out (by kernel_rfl)) (fun _ _ _ h => h) (Or.inl ⟨by rfl, ?_⟩) ?_ ?_
 rotate_left
 {
 intro w'
 go_simp
 with_reducible rfl
 }
 rotate_left
 {
 simp only [Act.put, sT_, sZ_, sS_, i64_w, i32_w]
 rfl
 }
 refine pure_ (i := 11) (N := some 109) (v := ?_) (a' := ?_) #[T,T,T,T,T,T,T,T,T,T,T,T,F,F,F,F,F,F,F,F,F,F] rfl rfl (any_of HT_.out (by kernel_rfl)) (fun _ _ _ h => h) (Or.inl ⟨by rfl, ?_⟩) ?_ ?_
 rotate_left
 {
 intro w'
 go_simp
 with_reducible rfl
 }
 rotate_left
 {
 simp only [Act.put, sT_, sZ_, sS_, i64_w, i32_w]
 rfl
 }
 refine pure_ (i := 12) (N := some 110) (v := ?_) (a' := ?_) #[T,T,T,T,T,T,T,T,T,T,T,T,T,F,F,F,F,F,F,F,F,F] rfl rfl (any_of HT_.out (by kernel_rfl)) (fun _ _ _ h => h) (Or.inl ⟨by rfl, ?_⟩) ?_ ?_
 rotate_left
 {
 intro w'
 go_simp
 with_reducible rfl
 }
 rotate_left
 {
 simp only [Act.put, sT_, sZ_, sS_, i64_w, i32_w]
 rfl
 }
 refine pure_ (i := 13) (N := some 111) (v := ?_) (a' := ?_) #[T,T,T,T,T,T,T,T,T,T,T,T,T,T,F,F,F,F,F,F,F,F] rfl rfl (any_of HT_.out (by kernel_rfl)) (fun _ _ _ h => h) (Or.inl ⟨by rfl, ?_⟩) ?_ ?_
 rotate_left
 {
 intro w'
 go_simp
 with_reducible rfl
 }
 rotate_left
 {
 simp only [Act.put, sT_, sZ_, sS_, i64_w, i32_w]
 rfl
 }
 refine pure_ (i := 15) (N := some 113) (v := ?_) (a' := ?_) #[T,T,T,T,T,T,T,T,T,T,T,T,T,T,F,T,F,F,F,F,F,F] rfl rfl (any_of HT_.out (by kernel_rfl)) (fun _ _ _ h => h) (Or.inl ⟨by rfl, ?_⟩) ?_ ?_
 rotate_left
 {
 intro w'
 go_simp
 with_reducible rfl
 }
 rotate_left
 {
 simp only [Act.put, sT_, sZ_, sS_, i64_w, i32_w]
 rfl
 }
 refine pure_ (i := 16) (N := some 114) (v := ?_) (a' := ?_) #[T,T,T,T,T,T,T,T,T,T,T,T,T,T,F,T,T,F,F,F,F,F] rfl rfl (any_of HT_.out (by kernel_rfl)) (fun _ _ _ h => h) (Or.inl ⟨by rfl, ?_⟩) ?_ ?_
 rotate_left
 {
 intro w'
 go_simp
 with_reducible rfl
 }
 rotate_left
 {
 simp only [Act.put, sT_, sZ_, sS_, i64_w, i32_w]
 rfl
 }
 refine pure_ (i := 17) (N := some 115) (v := ?_) (a' := ?_) #[T,T,T,T,T,T,T,T,T,T,T,T,T,T,F,T,T,T,F,F,F,F] rfl rfl (any_of HT_.out (by kernel_rfl)) (fun _ _ _ h => h) (Or.inl ⟨by rfl, ?_⟩) ?_ ?_
 rotate_left
 {
 intro w'
 go_simp
 with_reducible rfl
 }
 rotate_left
 {
 simp only [Act.put, sT_, sZ_, sS_, i64_w, i32_w]
 rfl
 }
 refine pure_ (i := 18) (N := some 116) (v := ?_) (a' := ?_) #[T,T,T,T,T,T,T,T,T,T,T,T,T,T,F,T,T,T,T,F,F,F] rfl rfl (any_of HT_.out (by kernel_rfl)) (fun _ _ _ h => h) (Or.inl ⟨by rfl, ?_⟩) ?_ ?_
 rotate_left
 {
 intro w'
 go_simp
 with_reducible rfl
 }
 rotate_left
 {
 simp only [Act.put, sT_, sZ_, sS_, i64_w, i32_w]
 rfl
 }
 refine take_ (i := 14) (N := some 112) (v := ?_) (a' := ?_) #[T,T,T,T,T,T,T,T,T,T,T,T,T,T,T,T,T,T,T,F,F,F] rfl rfl (take_ofW HT_.out HW_.out (by kernel_rfl)) (fun _ _ _ h => h) (Or.inl ⟨by rfl, ?_⟩) hHeld ?_ ?_
 rotate_left
 {
 rintro w' ⟨s0, s1, s2, s3, s4⟩
 go_simp
 with_reducible rfl
 }
 rotate_left
 {
 simp only [Act.put, sT_, sZ_, sS_, i64_w, i32_w]
 rfl
 }
 refine take_ (i := 19) (N := some 117) (v := ?_) (a' := ?_) #[T,T,T,T,T,T,T,T,T,T,T,T,T,T,T,T,T,T,T,T,F,F] rfl rfl (take_ofW HT_.out HW_.out (by kernel_rfl)) (fun _ _ _ h => h) (Or.inl ⟨by rfl, ?_⟩) hHeld ?_ ?_
 rotate_left
 {
 rintro w' ⟨s0, s1, s2, s3, s4⟩
 go_simp
 with_reducible rfl
 }
 rotate_left
 {
 simp only [Act.put, sT_, sZ_, sS_, i64_w, i32_w]
 rfl
 }
 refine pure_ (i := 20) (N := some 118) (v := ?_) (a' := ?_) #[T,T,T,T,T,T,T,T,T,T,T,T,T,T,T,T,T,T,T,T,T,F] rfl rfl (any_of HT_.out (by kernel_rfl)) (fun _ _ _ h => h) (Or.inl ⟨by rfl, ?_⟩) ?_ ?_
 rotate_left
 {
 intro w'
 go_simp
 with_reducible rfl
 }
 rotate_left
 {
 simp only [Act.put, sT_, sZ_, sS_, i64_w, i32_w]
 rfl
 }
 refine pure_ (i := 21) (N := some 119) (v := ?_) (a' := ?_) #[T,T,T,T,T,T,T,T,T,T,T,T,T,T,T,T,T,T,T,T,T,T] rfl rfl (any_of HT_.out (by kernel_rfl)) (fun _ _ _ h => h) (Or.inl ⟨by rfl, ?_⟩) ?_ ?_
 rotate_left
 {
 intro w'
 go_simp
 with_reducible rfl
 }
 rotate_left
 {
 simp only [Act.put, sT_, sZ_, sS_, i64_w, i32_w]
 rfl
 }
 refine done_ (done_of HT_.out (by kernel_rfl)) ?_
 try go_wp2
 go_meet
 case rel => exact ⟨_, (((rd ((rd_T35 t226 x10_1).f1) x12_2) != ((rd_T35 t226 x10_1).f0))), (by first | rfl | (simp; done) | (simp [*]; done)), H', ⟨by have := HK1.out; have := HK2.out; have := HJ17.out; have := HK4.out; first | omega | exact Nat.le_refl _⟩, ⟨by (with_reducible repeat (first | apply Kd.S_alloc | apply Kd.S_drewN | apply Kd.S_drew)); exact HO_5.out⟩, ⟨by (with_reducible repeat (first | apply Kd.S_alloc | apply Kd.S_drewN | apply Kd.S_drew)); exact HO_6.out⟩, ⟨by (with_reducible repeat (first | apply Kd.R_alloc | apply Kd.R_drewN | apply Kd.R_drew)); exact HO_7.out⟩, ⟨by (with_reducible repeat (first | apply Kd.R_alloc | apply Kd.R_drewN | apply Kd.R_drew)); exact HO_8.out⟩, ⟨by (with_reducible repeat (first | apply Kd.S_alloc | apply Kd.S_drewN | apply Kd.S_drew)); exact HO_9.out⟩, ⟨by repeat (first | (with_reducible exact HR239_1.out) | (with_reducible refine Kd.C_alloc ?_ _) | (with_reducible refine Kd.C_drewN ?_ _) | (with_reducible refine Kd.C_drew ?_) | exact HR239_1.out)⟩, ⟨by repeat (first | (with_reducible first | exact HB.out | apply below_alloc | apply pw_below_drewN | apply below_drew1) | exact HB.out)⟩⟩
 }
 {
 rw [if_neg c56] at H
 exact absurd H (by simp)
 }
 }
 {
 rw [if_neg c55] at H
 exact absurd H (by simp)
 }
 }
 as_aux_lemma => {
 rw [if_neg c54] at H
 have c54b0 : decide (x13_4 < ((rd_L1 t235 (rd ((rd_T35 t226 x10_1).f1) x12_2)).length : Int)) = false := decide_eq_false c54
 clear c54
 have H' := Aside0.mk H
 clear H
 try go_wp2
 have n0_ := Aside0.mk (Kd.S_drew HO_5.out)
 have n1_ := Aside0.mk (Kd.S_drew HO_6.out)
 have n2_ := Aside0.mk (Kd.R_drew HO_7.out)
 have n3_ := Aside0.mk (Kd.R_drew HO_8.out)
 have n4_ := Aside0.mk (Kd.S_drew HO_9.out)
 have n5_ := Aside0.mk (Kd.C_drew HR239_1.out)
 have n6_ := Aside0.mk (below_drew1 HB.out)
 clear HO_5
 clear HO_6
 clear HO_7
 clear HO_8
 clear HO_9
 clear HR239_1
 clear HB
 have HO_5 := n0_
 have HO_6 := n1_
 have HO_7 := n2_
 have HO_8 := n3_
 have HO_9 := n4_
 have HR239_1 := n5_
 have HB := n6_
 clear n0_ n1_ n2_ n3_ n4_ n5_ n6_
 have p254 : 0 ≤ (x12_2 : Int) := oD (by first | (with_reducible assumption) | assumption)
 have q254 : x12_2 < (((rd_T35 t226 x10_1).f1).length : Int) := oD (by first | (with_reducible assumption) | assumption)
 obtain ⟨ad254, e254, hx254_0⟩ := Kd.at_int (by repeat (first | (with_reducible exact HR239_1.out) | (with_reducible refine Kd.C_alloc ?_ _) | (with_reducible refine Kd.C_drewN ?_ _) | (with_reducible refine Kd.C_drew ?_) | exact HR239_1.out)) x12_2 p254 q254
 cases e254
 replace p254 := eq_true p254
 replace q254 := eq_true q254
 obtain ⟨Ao60, co60, eo60⟩ := Kd.S_slice HO_9.out
 (first | subst eo60 | (injection eo60 with f1_ f2_ f3_; have f4_ := f1_.symm; have f5_ := f3_.symm; clear f1_ f2_ f3_; subst f4_; subst f5_))
 have p255 : 0 ≤ ((rd ((rd_T35 t226 x10_1).f1) x12_2) : Int) := oD (by first | (with_reducible assumption) | assumption)
 have q255 : (rd ((rd_T35 t226 x10_1).f1) x12_2) < (t235.length : Int) := oD (by first | (with_reducible assumption) | assumption)
 obtain ⟨ad255, A255_0, c255_0, e255, hx255_0, hl255_0, hi255_0⟩ := at_L1 (Kd.S_reads' HO_9.out).2.2 (rd ((rd_T35 t226 x10_1).f1) x12_2) p255 q255
 cases e255
 obtain ⟨ce255, hce255, hMe255, hcc255⟩ := Kd.S_get HO_9.out [] (rd ((rd_T35 t226 x10_1).f1) x12_2) p255 (by first | exact q255 | exact oD (by first | (with_reducible assumption) | assumption) | (have e_ := (Kd.S_reads' HO_9.out).1; omega))
 obtain ⟨ve255_0, rfl, ge255_0⟩ := hMe255
 have hv255_0 := hcc255 0 _ rfl
 rw [Nat.add_zero, show ((Kd.slice 3 (Kd.int .i64))).sz = 1 from rfl, Nat.mul_one] at hv255_0
 replace hv255_0 := Option.some.inj (hv255_0.symm.trans hx255_0)
 rw [hv255_0] at ge255_0
 have HL255_0 := Aside0.mk (show Kd.R (Kd.int .i64) 3 _ _ _ _ (rd_L1 t235 (rd ((rd_T35 t226 x10_1).f1) x12_2)) from ge255_0)
 clear hv255_0 ge255_0
 clear hcc255 hce255
 have HR255_0 := Aside0.mk hi255_0
 have HC255_0 := Aside0.mk hl255_0
 clear hi255_0 hl255_0
 replace p255 := eq_true p255
 replace q255 := eq_true q255
 refine start_ (n := 22) (S := fun w' => w'.cell? (ad254.add (x12_2).toNat) = some (.int .i64 (rd ((rd_T35 t226 x10_1).f1) x12_2)) ∧ w'.cell? (ad255.add ((rd ((rd_T35 t226 x10_1).f1) x12_2)).toNat) = some (.slice A255_0 (rd_L1 t235 (rd ((rd_T35 t226 x10_1).f1) x12_2)).length c255_0)) (ds := []) #[F,F,F,F,F,F,F,F,F,F,F,F,F,F,F,F,F,F,F,F,F,F] (by kernel_rfl) rfl rfl ⟨hx254_0, hx255_0⟩ (fun hHeld => ?_); refine with_tabW interlocklaw12_LoopInto.tab16 interlocklaw12_LoopInto.bits16 (fun HT_ HW_ => ?_)
 generalize wr.drew = w59 at HO_5 HO_6 HO_7 HO_8 HO_9 HR239_1 HB HL255_0 HR255_0 hx254_0 hx255_0 hHeld ⊢
 refine pure_ (i := 0) (N := some 98) (v := ?_) (a' := ?_) #[T,F,F,F,F,F,F,F,F,F,F,F,F,F,F,F,F,F,F,F,F,F] rfl rfl (any_of HT_.out (by kernel_rfl)) (fun _ _ _ h => h) (Or.inl ⟨by rfl, ?_⟩) ?_ ?_
 rotate_left
 {
 intro w'
 go_simp
 with_reducible rfl
 }
 rotate_left
 {
 simp only [Act.put, sT_, sZ_, sS_, i64_w, i32_w]
 rfl
 }
 refine pure_ (i := 1) (N := some 99) (v := ?_) (a' := ?_) #[T,T,F,F,F,F,F,F,F,F,F,F,F,F,F,F,F,F,F,F,F,F] rfl rfl (any_of HT_.out (by kernel_rfl)) (fun _ _ _ h => h) (Or.inl ⟨by rfl, ?_⟩) ?_ ?_
 rotate_left
 {
 intro w'
 go_simp
 with_reducible rfl
 }
 rotate_left
 {
 simp only [Act.put, sT_, sZ_, sS_, i64_w, i32_w]
 rfl
 }
 refine pure_ (i := 2) (N := some 100) (v := ?_) (a' := ?_) #[T,T,T,F,F,F,F,F,F,F,F,F,F,F,F,F,F,F,F,F,F,F] rfl rfl (any_of HT_.out (by kernel_rfl)) (fun _ _ _ h => h) (Or.inl ⟨by rfl, ?_⟩) ?_ ?_
 rotate_left
 {
 intro w'
 go_simp
 with_reducible rfl
 }
 rotate_left
 {
 simp only [Act.put, sT_, sZ_, sS_, i64_w, i32_w]
 rfl
 }
 refine pure_ (i := 3) (N := some 101) (v := ?_) (a' := ?_) #[T,T,T,T,F,F,F,F,F,F,F,F,F,F,F,F,F,F,F,F,F,F] rfl rfl (any_of HT_.out (by kernel_rfl)) (fun _ _ _ h => h) (Or.inl ⟨by rfl, ?_⟩) ?_ ?_
 rotate_left
 {
 intro w'
 go_simp
 with_reducible rfl
 }
 rotate_left
 {
 simp only [Act.put, sT_, sZ_, sS_, i64_w, i32_w]
 rfl
 }
 refine pure_ (i := 4) (N := some 102) (v := ?_) (a' := ?_) #[T,T,T,T,T,F,F,F,F,F,F,F,F,F,F,F,F,F,F,F,F,F] rfl rfl (any_of HT_.out (by kernel_rfl)) (fun _ _ _ h => h) (Or.inl ⟨by rfl, ?_⟩) ?_ ?_
 rotate_left
 {
 intro w'
 go_simp
 with_reducible rfl
 }
 rotate_left
 {
 simp only [Act.put, sT_, sZ_, sS_, i64_w, i32_w]
 rfl
 }
 refine take_ (i := 5) (N := some 103) (v := ?_) (a' := ?_) #[T,T,T,T,T,T,F,F,F,F,F,F,F,F,F,F,F,F,F,F,F,F] rfl rfl (take_ofW HT_.out HW_.out (by kernel_rfl)) (fun _ _ _ h => h) (Or.inl ⟨by rfl, ?_⟩) hHeld ?_ ?_
 rotate_left
 {
 rintro w' ⟨s0, s1⟩
 go_simp
 with_reducible rfl
 }
 rotate_left
 {
 simp only [Act.put, sT_, sZ_, sS_, i64_w, i32_w]
 rfl
 }
 refine pure_ (i := 6) (N := some 104) (v := ?_) (a' := ?_) #[T,T,T,T,T,T,T,F,F,F,F,F,F,F,F,F,F,F,F,F,F,F] rfl rfl (any_of HT_.out (by kernel_rfl)) (fun _ _ _ h => h) (Or.inl ⟨by rfl, ?_⟩) ?_ ?_
 rotate_left
 {
 intro w'
 go_simp
 with_reducible rfl
 }
 rotate_left
 {
 simp only [Act.put, sT_, sZ_, sS_, i64_w, i32_w]
 rfl
 }
 refine take_ (i := 7) (N := some 105) (v := ?_) (a' := ?_) #[T,T,T,T,T,T,T,T,F,F,F,F,F,F,F,F,F,F,F,F,F,F] rfl rfl (take_ofW HT_.out HW_.out (by kernel_rfl)) (fun _ _ _ h => h) (Or.inl ⟨by rfl, ?_⟩) hHeld ?_ ?_
 rotate_left
 {
 rintro w' ⟨s0, s1⟩
 go_simp
 with_reducible rfl
 }
 rotate_left
 {
 simp only [Act.put, sT_, sZ_, sS_, i64_w, i32_w]
 rfl
 }
 refine pure_ (i := 8) (N := some 106) (v := ?_) (a' := ?_) #[T,T,T,T,T,T,T,T,T,F,F,F,F,F,F,F,F,F,F,F,F,F] rfl rfl (any_of HT_.out (by kernel_rfl)) (fun _ _ _ h => h) (Or.inl ⟨by rfl, ?_⟩) ?_ ?_
 rotate_left
 {
 intro w'
 go_simp
 with_reducible rfl
 }
 rotate_left
 {
 simp only [Act.put, sT_, sZ_, sS_, i64_w, i32_w]
 rfl
 }
 refine pure_ (i := 9) (N := some 107) (v := ?_) (a' := ?_) #[T,T,T,T,T,T,T,T,T,T,F,F,F,F,F,F,F,F,F,F,F,F] rfl rfl (any_of HT_.out (by kernel_rfl)) (fun _ _ _ h => h) (Or.inl ⟨by rfl, ?_⟩) ?_ ?_
 rotate_left
 {
 intro w'
 go_simp
 with_reducible rfl
 }
 rotate_left
 {
 simp only [Act.put, sT_, sZ_, sS_, i64_w, i32_w]
 rfl
 }
 refine pure_ (i := 10) (N := some 108) (v := ?_) (a' := ?_) #[T,T,T,T,T,T,T,T,T,T,T,F,F,F,F,F,F,F,F,F,F,F] rfl rfl (any_of HT_.out (by kernel_rfl)) (fun _ _ _ h => h) (Or.inl ⟨by rfl, ?_⟩) ?_ ?_
 rotate_left
 {
 intro w'
 go_simp
 with_reducible rfl
 }
 rotate_left
 {
 simp only [Act.put, sT_, sZ_, sS_, i64_w, i32_w]
 rfl
 }
 refine pure_ (i := 11) (N := some 109) (v := undef) (a' := ?_) #[T,T,T,T,T,T,T,T,T,T,T,T,F,F,F,F,F,F,F,F,F,F] rfl rfl (any_of HT_.out (by kernel_rfl)) (fun _ _ _ h => h) (Or.inr ⟨by rfl, rfl⟩) ?_ ?_
 rotate_left
 {
 simp only [Act.put, sT_, sZ_, sS_, i64_w, i32_w]
 rfl
 }
 refine pure_ (i := 12) (N := some 110) (v := undef) (a' := ?_) #[T,T,T,T,T,T,T,T,T,T,T,T,T,F,F,F,F,F,F,F,F,F] rfl rfl (any_of HT_.out (by kernel_rfl)) (fun _ _ _ h => h) (Or.inr ⟨by rfl, rfl⟩) ?_ ?_
 rotate_left
 {
 simp only [Act.put, sT_, sZ_, sS_, i64_w, i32_w]
 rfl
 }
 refine pure_ (i := 13) (N := some 111) (v := undef) (a' := ?_) #[T,T,T,T,T,T,T,T,T,T,T,T,T,T,F,F,F,F,F,F,F,F] rfl rfl (any_of HT_.out (by kernel_rfl)) (fun _ _ _ h => h) (Or.inr ⟨by rfl, rfl⟩) ?_ ?_
 rotate_left
 {
 simp only [Act.put, sT_, sZ_, sS_, i64_w, i32_w]
 rfl
 }
 refine pure_ (i := 14) (N := some 112) (v := undef) (a' := ?_) #[T,T,T,T,T,T,T,T,T,T,T,T,T,T,T,F,F,F,F,F,F,F] rfl rfl (any_of HT_.out (by kernel_rfl)) (fun _ _ _ h => h) (Or.inr ⟨by rfl, rfl⟩) ?_ ?_
 rotate_left
 {
 simp only [Act.put, sT_, sZ_, sS_, i64_w, i32_w]
 rfl
 }
 refine pure_ (i := 15) (N := some 113) (v := undef) (a' := ?_) #[T,T,T,T,T,T,T,T,T,T,T,T,T,T,T,T,F,F,F,F,F,F] rfl rfl (any_of HT_.out (by kernel_rfl)) (fun _ _ _ h => h) (Or.inr ⟨by rfl, rfl⟩) ?_ ?_
 rotate_left
 {
 simp only [Act.put, sT_, sZ_, sS_, i64_w, i32_w]
 rfl
 }
 refine pure_ (i := 16) (N := some 114) (v := undef) (a' := ?_) #[T,T,T,T,T,T,T,T,T,T,T,T,T,T,T,T,T,F,F,F,F,F] rfl rfl (any_of HT_.out (by kernel_rfl)) (fun _ _ _ h => h) (Or.inr ⟨by rfl, rfl⟩) ?_ ?_
 rotate_left
 {
 simp only [Act.put, sT_, sZ_, sS_, i64_w, i32_w]
 rfl
 }
 refine pure_ (i := 17) (N := some 115) (v := undef) (a' := ?_) #[T,T,T,T,T,T,T,T,T,T,T,T,T,T,T,T,T,T,F,F,F,F] rfl rfl (any_of HT_.out (by kernel_rfl)) (fun _ _ _ h => h) (Or.inr ⟨by rfl, rfl⟩) ?_ ?_
 rotate_left
 {
 simp only [Act.put, sT_, sZ_, sS_, i64_w, i32_w]
 rfl
 }
 refine pure_ (i := 18) (N := some 116) (v := undef) (a' := ?_) #[T,T,T,T,T,T,T,T,T,T,T,T,T,T,T,T,T,T,T,F,F,F] rfl rfl (any_of HT_.out (by kernel_rfl)) (fun _ _ _ h => h) (Or.inr ⟨by rfl, rfl⟩) ?_ ?_
 rotate_left
 {
 simp only [Act.put, sT_, sZ_, sS_, i64_w, i32_w]
 rfl
 }
 refine pure_ (i := 19) (N := some 117) (v := undef) (a' := ?_) #[T,T,T,T,T,T,T,T,T,T,T,T,T,T,T,T,T,T,T,T,F,F] rfl rfl (any_of HT_.out (by kernel_rfl)) (fun _ _ _ h => h) (Or.inr ⟨by rfl, rfl⟩) ?_ ?_
 rotate_left
 {
 simp only [Act.put, sT_, sZ_, sS_, i64_w, i32_w]
 rfl
 }
 refine pure_ (i := 20) (N := some 118) (v := undef) (a' := ?_) #[T,T,T,T,T,T,T,T,T,T,T,T,T,T,T,T,T,T,T,T,T,F] rfl rfl (any_of HT_.out (by kernel_rfl)) (fun _ _ _ h => h) (Or.inr ⟨by rfl, rfl⟩) ?_ ?_
 rotate_left
 {
 simp only [Act.put, sT_, sZ_, sS_, i64_w, i32_w]
 rfl
 }
 refine pure_ (i := 21) (N := some 119) (v := ?_) (a' := ?_) #[T,T,T,T,T,T,T,T,T,T,T,T,T,T,T,T,T,T,T,T,T,T] rfl rfl (any_of HT_.out (by kernel_rfl)) (fun _ _ _ h => h) (Or.inl ⟨by rfl, ?_⟩) ?_ ?_
 rotate_left
 {
 intro w'
 go_simp
 with_reducible rfl
 }
 rotate_left
 {
 simp only [Act.put, sT_, sZ_, sS_, i64_w, i32_w]
 rfl
 }
 refine done_ (done_of HT_.out (by kernel_rfl)) ?_
 try go_wp2
 go_meet
 case rel => exact ⟨_, (false), (by first | rfl | (simp; done) | (simp [*]; done)), H', ⟨by have := HK1.out; have := HK2.out; have := HJ17.out; have := HK4.out; first | omega | exact Nat.le_refl _⟩, ⟨by (with_reducible repeat (first | apply Kd.S_alloc | apply Kd.S_drewN | apply Kd.S_drew)); exact HO_5.out⟩, ⟨by (with_reducible repeat (first | apply Kd.S_alloc | apply Kd.S_drewN | apply Kd.S_drew)); exact HO_6.out⟩, ⟨by (with_reducible repeat (first | apply Kd.R_alloc | apply Kd.R_drewN | apply Kd.R_drew)); exact HO_7.out⟩, ⟨by (with_reducible repeat (first | apply Kd.R_alloc | apply Kd.R_drewN | apply Kd.R_drew)); exact HO_8.out⟩, ⟨by (with_reducible repeat (first | apply Kd.S_alloc | apply Kd.S_drewN | apply Kd.S_drew)); exact HO_9.out⟩, ⟨by repeat (first | (with_reducible exact HR239_1.out) | (with_reducible refine Kd.C_alloc ?_ _) | (with_reducible refine Kd.C_drewN ?_ _) | (with_reducible refine Kd.C_drew ?_) | exact HR239_1.out)⟩, ⟨by repeat (first | (with_reducible first | exact HB.out | apply below_alloc | apply pw_below_drewN | apply below_drew1) | exact HB.out)⟩⟩
 }
 }
 {
 rw [if_neg c53] at H
 exact absurd H (by simp)
 }
 }
 {
 rw [if_neg c52] at H
 exact absurd H (by simp)
 }
 }
 {
 rw [if_neg c51] at H
 exact absurd H (by simp)
 }
 }
 {
 rw [if_neg c50] at H
 exact absurd H (by simp)
 }
 )
 case rest => (
 clear HC49
 try clear c1
 try clear c2
 try clear p2
 try clear q2
 try clear hx2
 try clear c3
 try clear c4
 try clear c5
 try clear c12
 try clear c19
 try clear c24
 try clear p24
 try clear q24
 try clear hx24
 try clear c25
 try clear p25
 try clear q25
 try clear hx25
 try clear q26
 try clear c27
 try clear c28
 try clear c29
 try clear c30
 try clear c48
 try clear c50
 try clear c50b0
 try clear c51
 try clear c51b0
 try clear c52
 try clear c52b0
 try clear c53
 try clear c53b0
 try clear c54
 try clear c54b0
 try clear c55
 try clear c55b0
 try clear c56
 try clear c56b0
 try clear hx244_0
 try clear hx245_0
 try clear hx246_0
 try clear hx247_0
 try clear hx254_0
 try clear hx255_0
 try clear hx256_0
 try clear hx257_0
 try clear hx257_1
 try clear p2
 try clear p24
 try clear p244
 try clear p245
 try clear p246
 try clear p247
 try clear p254
 try clear p255
 try clear p256
 try clear p257
 try clear q2
 try clear q24
 try clear q244
 try clear q245
 try clear q246
 try clear q247
 try clear q254
 try clear q255
 try clear q256
 try clear q257
 try clear q26
 obtain ⟨kq, x119_48, rfl, HA, HJ48, HO_5, HO_6, HO_7, HO_8, HO_9, HR239_1, HB⟩ := hcut
 cases kq with
 | zero => exact absurd HA.out (by simp [interlocklaw12_LoopInto.j4])
 | succ kj48 => (
 have H := HA.out
 clear HA
 simp only [interlocklaw12_LoopInto.j4] at H
 by_cases c61 : x119_48 = true
 {
 subst c61
 have H1 : (if 0 ≤ x12_2 then (if x12_2 < (((rd_T35 t226 x10_1).f1).length : Int) then (if 0 ≤ (rd ((rd_T35 t226 x10_1).f1) x12_2) then (if (rd ((rd_T35 t226 x10_1).f1) x12_2) < (t235.length : Int) then (if 0 ≤ x13_4 then (if x13_4 < ((rd_L1 t235 (rd ((rd_T35 t226 x10_1).f1) x12_2)).length : Int) then (if 0 ≤ (rd (rd_L1 t235 (rd ((rd_T35 t226 x10_1).f1) x12_2)) x13_4) then (if (rd (rd_L1 t235 (rd ((rd_T35 t226 x10_1).f1) x12_2)) x13_4) < (t232.length : Int) then (if rdOf false t232 (rd (rd_L1 t235 (rd ((rd_T35 t226 x10_1).f1) x12_2)) x13_4) = true then ((interlocklaw12_has.f kj48 ((rd_T35 t226 x10_1).f1) (rd (rd_L1 t235 (rd ((rd_T35 t226 x10_1).f1) x12_2)) x13_4)).bind fun t265 => (if t265 = true then (interlocklaw12_LoopInto.l2 kj48 t223 t226 t229 t232 t235 x10_1 ((rd_T35 t226 x10_1).f1) x12_2 (wrap64 (x13_4 + 1))) else (none))) else (interlocklaw12_LoopInto.l2 kj48 t223 t226 t229 t232 t235 x10_1 ((rd_T35 t226 x10_1).f1) x12_2 (wrap64 (x13_4 + 1)))) else (none)) else (none)) else (none)) else (none)) else (none)) else (none)) else (none)) else (none)) = some r := by rw [if_pos rfl] at H; exact H
 clear H
 have H := H1
 clear H1
 by_cases c62 : 0 ≤ x12_2
 as_aux_lemma => {
 rw [if_pos c62] at H
 have c62b0 : decide (0 ≤ x12_2) = true := decide_eq_true c62
 clear c62
 by_cases c63 : x12_2 < (((rd_T35 t226 x10_1).f1).length : Int)
 {
 rw [if_pos c63] at H
 have c63b0 : decide (x12_2 < (((rd_T35 t226 x10_1).f1).length : Int)) = true := decide_eq_true c63
 clear c63
 by_cases c64 : 0 ≤ (rd ((rd_T35 t226 x10_1).f1) x12_2)
 {
 rw [if_pos c64] at H
 have c64b0 : decide (0 ≤ (rd ((rd_T35 t226 x10_1).f1) x12_2)) = true := decide_eq_true c64
 clear c64
 by_cases c65 : (rd ((rd_T35 t226 x10_1).f1) x12_2) < (t235.length : Int)
 {
 rw [if_pos c65] at H
 have c65b0 : decide ((rd ((rd_T35 t226 x10_1).f1) x12_2) < (t235.length : Int)) = true := decide_eq_true c65
 clear c65
 by_cases c66 : 0 ≤ x13_4
 {
 rw [if_pos c66] at H
 have c66b0 : decide (0 ≤ x13_4) = true := decide_eq_true c66
 clear c66
 by_cases c67 : x13_4 < ((rd_L1 t235 (rd ((rd_T35 t226 x10_1).f1) x12_2)).length : Int)
 {
 rw [if_pos c67] at H
 have c67b0 : decide (x13_4 < ((rd_L1 t235 (rd ((rd_T35 t226 x10_1).f1) x12_2)).length : Int)) = true := decide_eq_true c67
 clear c67
 by_cases c68 : 0 ≤ (rd (rd_L1 t235 (rd ((rd_T35 t226 x10_1).f1) x12_2)) x13_4)
 {
 rw [if_pos c68] at H
 have c68b0 : decide (0 ≤ (rd (rd_L1 t235 (rd ((rd_T35 t226 x10_1).f1) x12_2)) x13_4)) = true := decide_eq_true c68
 clear c68
 by_cases c69 : (rd (rd_L1 t235 (rd ((rd_T35 t226 x10_1).f1) x12_2)) x13_4) < (t232.length : Int)
 {
 rw [if_pos c69] at H
 have c69b0 : decide ((rd (rd_L1 t235 (rd ((rd_T35 t226 x10_1).f1) x12_2)) x13_4) < (t232.length : Int)) = true := decide_eq_true c69
 clear c69
 obtain ⟨bq70, hbq70⟩ : ∃ b_ : Bool, b_ = (rdOf false t232 (rd (rd_L1 t235 (rd ((rd_T35 t226 x10_1).f1) x12_2)) x13_4)) := ⟨_, rfl⟩
 replace H : (if bq70 = true then ((interlocklaw12_has.f kj48 ((rd_T35 t226 x10_1).f1) (rd (rd_L1 t235 (rd ((rd_T35 t226 x10_1).f1) x12_2)) x13_4)).bind fun t265 => (if t265 = true then (interlocklaw12_LoopInto.l2 kj48 t223 t226 t229 t232 t235 x10_1 ((rd_T35 t226 x10_1).f1) x12_2 (wrap64 (x13_4 + 1))) else (none))) else (interlocklaw12_LoopInto.l2 kj48 t223 t226 t229 t232 t235 x10_1 ((rd_T35 t226 x10_1).f1) x12_2 (wrap64 (x13_4 + 1)))) = some r := by rw [← hbq70] at H; exact H
 have Nbq70 := Aside0.mk hbq70
 clear hbq70
 by_cases c71 : bq70 = true
 {
 subst c71
 have H1 : ((interlocklaw12_has.f kj48 ((rd_T35 t226 x10_1).f1) (rd (rd_L1 t235 (rd ((rd_T35 t226 x10_1).f1) x12_2)) x13_4)).bind fun t265 => (if t265 = true then (interlocklaw12_LoopInto.l2 kj48 t223 t226 t229 t232 t235 x10_1 ((rd_T35 t226 x10_1).f1) x12_2 (wrap64 (x13_4 + 1))) else (none))) = some r := by rw [if_pos rfl] at H; exact H
 clear H
 have H := H1
 clear H1
 replace H := Option.bind_eq_some_iff.mp H
 obtain ⟨t265, A720, H⟩ := H
 replace H : (if t265 = true then (interlocklaw12_LoopInto.l2 kj48 t223 t226 t229 t232 t235 x10_1 ((rd_T35 t226 x10_1).f1) x12_2 (wrap64 (x13_4 + 1))) else (none)) = some r := H
 have A72 := Aside0.mk A720
 clear A720
 by_cases c73 : t265 = true
 {
 subst c73
 have H1 : (interlocklaw12_LoopInto.l2 kj48 t223 t226 t229 t232 t235 x10_1 ((rd_T35 t226 x10_1).f1) x12_2 (wrap64 (x13_4 + 1))) = some r := by rw [if_pos rfl] at H; exact H
 clear H
 have H := H1
 clear H1
 have H' := Aside0.mk H
 clear H
 have p258 : 0 ≤ (x12_2 : Int) := oD (by first | (with_reducible assumption) | assumption)
 have q258 : x12_2 < (((rd_T35 t226 x10_1).f1).length : Int) := oD (by first | (with_reducible assumption) | assumption)
 obtain ⟨ad258, e258, hx258_0⟩ := Kd.at_int (by repeat (first | (with_reducible exact HR239_1.out) | (with_reducible refine Kd.C_alloc ?_ _) | (with_reducible refine Kd.C_drewN ?_ _) | (with_reducible refine Kd.C_drew ?_) | exact HR239_1.out)) x12_2 p258 q258
 cases e258
 replace p258 := eq_true p258
 replace q258 := eq_true q258
 obtain ⟨Ao74, co74, eo74⟩ := Kd.S_slice HO_9.out
 subst eo74
 have p259 : 0 ≤ ((rd ((rd_T35 t226 x10_1).f1) x12_2) : Int) := oD (by first | (with_reducible assumption) | assumption)
 have q259 : (rd ((rd_T35 t226 x10_1).f1) x12_2) < (t235.length : Int) := oD (by first | (with_reducible assumption) | assumption)
 obtain ⟨ad259, A259_0, c259_0, e259, hx259_0, hl259_0, hi259_0⟩ := at_L1 (Kd.S_reads' HO_9.out).2.2 (rd ((rd_T35 t226 x10_1).f1) x12_2) p259 q259
 cases e259
 obtain ⟨ce259, hce259, hMe259, hcc259⟩ := Kd.S_get HO_9.out [] (rd ((rd_T35 t226 x10_1).f1) x12_2) p259 (by first | exact q259 | exact oD (by first | (with_reducible assumption) | assumption) | (have e_ := (Kd.S_reads' HO_9.out).1; omega))
 obtain ⟨ve259_0, rfl, ge259_0⟩ := hMe259
 have hv259_0 := hcc259 0 _ rfl
 rw [Nat.add_zero, show ((Kd.slice 3 (Kd.int .i64))).sz = 1 from rfl, Nat.mul_one] at hv259_0
 replace hv259_0 := Option.some.inj (hv259_0.symm.trans hx259_0)
 rw [hv259_0] at ge259_0
 have HL259_0 := Aside0.mk (show Kd.R (Kd.int .i64) 3 _ _ _ _ (rd_L1 t235 (rd ((rd_T35 t226 x10_1).f1) x12_2)) from ge259_0)
 clear hv259_0 ge259_0
 clear hcc259 hce259
 have HR259_0 := Aside0.mk hi259_0
 have HC259_0 := Aside0.mk hl259_0
 clear hi259_0 hl259_0
 replace p259 := eq_true p259
 replace q259 := eq_true q259
 have p260 : 0 ≤ (x13_4 : Int) := oD (by first | (with_reducible assumption) | assumption)
 have q260 : x13_4 < ((rd_L1 t235 (rd ((rd_T35 t226 x10_1).f1) x12_2)).length : Int) := oD (by first | (with_reducible assumption) | assumption)
 obtain ⟨ad260, e260, hx260_0⟩ := Kd.at_int (by repeat (first | (with_reducible exact HR259_0.out) | (with_reducible refine Kd.C_alloc ?_ _) | (with_reducible refine Kd.C_drewN ?_ _) | (with_reducible refine Kd.C_drew ?_) | exact HR259_0.out)) x13_4 p260 q260
 cases e260
 replace p260 := eq_true p260
 replace q260 := eq_true q260
 obtain ⟨Ao75, co75, eo75⟩ := Kd.R_slice HO_8.out
 subst eo75
 have p261 : 0 ≤ ((rd (rd_L1 t235 (rd ((rd_T35 t226 x10_1).f1) x12_2)) x13_4) : Int) := oD (by first | (with_reducible assumption) | assumption)
 have q261 : (rd (rd_L1 t235 (rd ((rd_T35 t226 x10_1).f1) x12_2)) x13_4) < (t232.length : Int) := oD (by first | (with_reducible assumption) | assumption)
 obtain ⟨ad261, e261, hx261_0⟩ := Kd.at_bool (Kd.R_reads' HO_8.out).2.2 (rd (rd_L1 t235 (rd ((rd_T35 t226 x10_1).f1) x12_2)) x13_4) p261 q261
 (try rw [← Nbq70.out] at hx261_0)
 cases e261
 replace p261 := eq_true p261
 replace q261 := eq_true q261
 have p262 : 0 ≤ (x12_2 : Int) := oD (by first | (with_reducible assumption) | assumption)
 have q262 : x12_2 < (((rd_T35 t226 x10_1).f1).length : Int) := oD (by first | (with_reducible assumption) | assumption)
 obtain ⟨ad262, e262, hx262_0⟩ := Kd.at_int (by repeat (first | (with_reducible exact HR239_1.out) | (with_reducible refine Kd.C_alloc ?_ _) | (with_reducible refine Kd.C_drewN ?_ _) | (with_reducible refine Kd.C_drew ?_) | exact HR239_1.out)) x12_2 p262 q262
 obtain rfl : ad258 = ad262 := (by injection e262)
 replace p262 := eq_true p262
 replace q262 := eq_true q262
 have p263 : 0 ≤ ((rd ((rd_T35 t226 x10_1).f1) x12_2) : Int) := oD (by first | (with_reducible assumption) | assumption)
 have q263 : (rd ((rd_T35 t226 x10_1).f1) x12_2) < (t235.length : Int) := oD (by first | (with_reducible assumption) | assumption)
 obtain ⟨ad263, A263_0, c263_0, e263, hx263_0, hl263_0, hi263_0⟩ := at_L1 (Kd.S_reads' HO_9.out).2.2 (rd ((rd_T35 t226 x10_1).f1) x12_2) p263 q263
 obtain rfl : ad259 = ad263 := (by injection e263)
 obtain ⟨ce263, hce263, hMe263, hcc263⟩ := Kd.S_get HO_9.out [] (rd ((rd_T35 t226 x10_1).f1) x12_2) p263 (by first | exact q263 | exact oD (by first | (with_reducible assumption) | assumption) | (have e_ := (Kd.S_reads' HO_9.out).1; omega))
 obtain ⟨ve263_0, rfl, ge263_0⟩ := hMe263
 have hv263_0 := hcc263 0 _ rfl
 rw [Nat.add_zero, show ((Kd.slice 3 (Kd.int .i64))).sz = 1 from rfl, Nat.mul_one] at hv263_0
 replace hv263_0 := Option.some.inj (hv263_0.symm.trans hx263_0)
 rw [hv263_0] at ge263_0
 have HL263_0 := Aside0.mk (show Kd.R (Kd.int .i64) 3 _ _ _ _ (rd_L1 t235 (rd ((rd_T35 t226 x10_1).f1) x12_2)) from ge263_0)
 clear hv263_0 ge263_0
 clear hcc263 hce263
 have HR263_0 := Aside0.mk hi263_0
 have HC263_0 := Aside0.mk hl263_0
 clear hi263_0 hl263_0
 replace p263 := eq_true p263
 replace q263 := eq_true q263
 have ea_ := Option.some.inj (hx259_0.symm.trans hx263_0)
 injection ea_ with ea_ en_ ec_
 subst ea_
 subst ec_
 clear en_
 have p264 : 0 ≤ (x13_4 : Int) := oD (by first | (with_reducible assumption) | assumption)
 have q264 : x13_4 < ((rd_L1 t235 (rd ((rd_T35 t226 x10_1).f1) x12_2)).length : Int) := oD (by first | (with_reducible assumption) | assumption)
 obtain ⟨ad264, e264, hx264_0⟩ := Kd.at_int (by repeat (first | (with_reducible exact HR263_0.out) | (with_reducible refine Kd.C_alloc ?_ _) | (with_reducible refine Kd.C_drewN ?_ _) | (with_reducible refine Kd.C_drew ?_) | exact HR263_0.out)) x13_4 p264 q264
 cases e264
 replace p264 := eq_true p264
 replace q264 := eq_true q264
 go_wp2_with (first | (go_at_call 13; (with_reducible refine (interlocklaw12_has.calls kj48 _ _ ((rd_T35 t226 x10_1).f1) (rd (rd_L1 t235 (rd ((rd_T35 t226 x10_1).f1) x12_2)) x13_4) true _ ?side1 ?side2 A72.out).mono ?_); (case side1 => repeat (first | exact (by repeat (first | (with_reducible exact HR239_1.out) | (with_reducible refine Kd.C_alloc ?_ _) | (with_reducible refine Kd.C_drewN ?_ _) | (with_reducible refine Kd.C_drew ?_) | exact HR239_1.out)) | (with_reducible refine Kd.C_alloc ?_ _) | (with_reducible refine Kd.C_drewN ?_ _) | (with_reducible refine Kd.C_drew ?_))); (case side2 => exact HC239_1.out); rintro e w' ⟨rfl, ⟨nd, rfl⟩⟩))
 go_roundg kj48
 case measure => have := HK1.out; have := HK2.out; have := HJ17.out; have := HK4.out; have := HJ48.out; omega
 case rel => exact ⟨(wrap64 (x13_4 + 1)), (by first | rfl | (simp; done) | (simp [*]; done)), H', ⟨by have := HK1.out; have := HK2.out; have := HJ17.out; have := HK4.out; have := HJ48.out; omega⟩, ⟨by (with_reducible repeat (first | apply Kd.S_alloc | apply Kd.S_drewN | apply Kd.S_drew)); exact HO_5.out⟩, ⟨by (with_reducible repeat (first | apply Kd.S_alloc | apply Kd.S_drewN | apply Kd.S_drew)); exact HO_6.out⟩, ⟨by (with_reducible repeat (first | apply Kd.R_alloc | apply Kd.R_drewN | apply Kd.R_drew)); exact HO_7.out⟩, ⟨by (with_reducible repeat (first | apply Kd.R_alloc | apply Kd.R_drewN | apply Kd.R_drew)); exact HO_8.out⟩, ⟨by (with_reducible repeat (first | apply Kd.S_alloc | apply Kd.S_drewN | apply Kd.S_drew)); exact HO_9.out⟩, ⟨by repeat (first | (with_reducible exact HR239_1.out) | (with_reducible refine Kd.C_alloc ?_ _) | (with_reducible refine Kd.C_drewN ?_ _) | (with_reducible refine Kd.C_drew ?_) | exact HR239_1.out)⟩, ⟨by repeat (first | (with_reducible first | exact HB.out | apply below_alloc | apply pw_below_drewN | apply below_drew1) | exact HB.out)⟩⟩
 }
 {
 replace c73 := Bool.eq_false_iff.mpr c73
 subst c73
 have H1 : (none) = some r := by rw [if_neg (show ¬ (false = true) by decide)] at H; exact H
 clear H
 have H := H1
 clear H1
 exact absurd H (by simp)
 }
 }
 {
 replace c71 := Bool.eq_false_iff.mpr c71
 subst c71
 have H1 : (interlocklaw12_LoopInto.l2 kj48 t223 t226 t229 t232 t235 x10_1 ((rd_T35 t226 x10_1).f1) x12_2 (wrap64 (x13_4 + 1))) = some r := by rw [if_neg (show ¬ (false = true) by decide)] at H; exact H
 clear H
 have H := H1
 clear H1
 have H' := Aside0.mk H
 clear H
 have p258 : 0 ≤ (x12_2 : Int) := oD (by first | (with_reducible assumption) | assumption)
 have q258 : x12_2 < (((rd_T35 t226 x10_1).f1).length : Int) := oD (by first | (with_reducible assumption) | assumption)
 obtain ⟨ad258, e258, hx258_0⟩ := Kd.at_int (by repeat (first | (with_reducible exact HR239_1.out) | (with_reducible refine Kd.C_alloc ?_ _) | (with_reducible refine Kd.C_drewN ?_ _) | (with_reducible refine Kd.C_drew ?_) | exact HR239_1.out)) x12_2 p258 q258
 cases e258
 replace p258 := eq_true p258
 replace q258 := eq_true q258
 obtain ⟨Ao76, co76, eo76⟩ := Kd.S_slice HO_9.out
 subst eo76
 have p259 : 0 ≤ ((rd ((rd_T35 t226 x10_1).f1) x12_2) : Int) := oD (by first | (with_reducible assumption) | assumption)
 have q259 : (rd ((rd_T35 t226 x10_1).f1) x12_2) < (t235.length : Int) := oD (by first | (with_reducible assumption) | assumption)
 obtain ⟨ad259, A259_0, c259_0, e259, hx259_0, hl259_0, hi259_0⟩ := at_L1 (Kd.S_reads' HO_9.out).2.2 (rd ((rd_T35 t226 x10_1).f1) x12_2) p259 q259
 cases e259
 obtain ⟨ce259, hce259, hMe259, hcc259⟩ := Kd.S_get HO_9.out [] (rd ((rd_T35 t226 x10_1).f1) x12_2) p259 (by first | exact q259 | exact oD (by first | (with_reducible assumption) | assumption) | (have e_ := (Kd.S_reads' HO_9.out).1; omega))
 obtain ⟨ve259_0, rfl, ge259_0⟩ := hMe259
 have hv259_0 := hcc259 0 _ rfl
 rw [Nat.add_zero, show ((Kd.slice 3 (Kd.int .i64))).sz = 1 from rfl, Nat.mul_one] at hv259_0
 replace hv259_0 := Option.some.inj (hv259_0.symm.trans hx259_0)
 rw [hv259_0] at ge259_0
 have HL259_0 := Aside0.mk (show Kd.R (Kd.int .i64) 3 _ _ _ _ (rd_L1 t235 (rd ((rd_T35 t226 x10_1).f1) x12_2)) from ge259_0)
 clear hv259_0 ge259_0
 clear hcc259 hce259
 have HR259_0 := Aside0.mk hi259_0
 have HC259_0 := Aside0.mk hl259_0
 clear hi259_0 hl259_0
 replace p259 := eq_true p259
 replace q259 := eq_true q259
 have p260 : 0 ≤ (x13_4 : Int) := oD (by first | (with_reducible assumption) | assumption)
 have q260 : x13_4 < ((rd_L1 t235 (rd ((rd_T35 t226 x10_1).f1) x12_2)).length : Int) := oD (by first | (with_reducible assumption) | assumption)
 obtain ⟨ad260, e260, hx260_0⟩ := Kd.at_int (by repeat (first | (with_reducible exact HR259_0.out) | (with_reducible refine Kd.C_alloc ?_ _) | (with_reducible refine Kd.C_drewN ?_ _) | (with_reducible refine Kd.C_drew ?_) | exact HR259_0.out)) x13_4 p260 q260
 cases e260
 replace p260 := eq_true p260
 replace q260 := eq_true q260
 obtain ⟨Ao77, co77, eo77⟩ := Kd.R_slice HO_8.out
 subst eo77
 have p261 : 0 ≤ ((rd (rd_L1 t235 (rd ((rd_T35 t226 x10_1).f1) x12_2)) x13_4) : Int) := oD (by first | (with_reducible assumption) | assumption)
 have q261 : (rd (rd_L1 t235 (rd ((rd_T35 t226 x10_1).f1) x12_2)) x13_4) < (t232.length : Int) := oD (by first | (with_reducible assumption) | assumption)
 obtain ⟨ad261, e261, hx261_0⟩ := Kd.at_bool (Kd.R_reads' HO_8.out).2.2 (rd (rd_L1 t235 (rd ((rd_T35 t226 x10_1).f1) x12_2)) x13_4) p261 q261
 (try rw [← Nbq70.out] at hx261_0)
 cases e261
 replace p261 := eq_true p261
 replace q261 := eq_true q261
 go_wp2
 go_roundg kj48
 case measure => have := HK1.out; have := HK2.out; have := HJ17.out; have := HK4.out; have := HJ48.out; omega
 case rel => exact ⟨(wrap64 (x13_4 + 1)), (by first | rfl | (simp; done) | (simp [*]; done)), H', ⟨by have := HK1.out; have := HK2.out; have := HJ17.out; have := HK4.out; have := HJ48.out; omega⟩, ⟨by (with_reducible repeat (first | apply Kd.S_alloc | apply Kd.S_drewN | apply Kd.S_drew)); exact HO_5.out⟩, ⟨by (with_reducible repeat (first | apply Kd.S_alloc | apply Kd.S_drewN | apply Kd.S_drew)); exact HO_6.out⟩, ⟨by (with_reducible repeat (first | apply Kd.R_alloc | apply Kd.R_drewN | apply Kd.R_drew)); exact HO_7.out⟩, ⟨by (with_reducible repeat (first | apply Kd.R_alloc | apply Kd.R_drewN | apply Kd.R_drew)); exact HO_8.out⟩, ⟨by (with_reducible repeat (first | apply Kd.S_alloc | apply Kd.S_drewN | apply Kd.S_drew)); exact HO_9.out⟩, ⟨by repeat (first | (with_reducible exact HR239_1.out) | (with_reducible refine Kd.C_alloc ?_ _) | (with_reducible refine Kd.C_drewN ?_ _) | (with_reducible refine Kd.C_drew ?_) | exact HR239_1.out)⟩, ⟨by repeat (first | (with_reducible first | exact HB.out | apply below_alloc | apply pw_below_drewN | apply below_drew1) | exact HB.out)⟩⟩
 }
 }
 {
 rw [if_neg c69] at H
 exact absurd H (by simp)
 }
 }
 {
 rw [if_neg c68] at H
 exact absurd H (by simp)
 }
 }
 {
 rw [if_neg c67] at H
 exact absurd H (by simp)
 }
 }
 {
 rw [if_neg c66] at H
 exact absurd H (by simp)
 }
 }
 {
 rw [if_neg c65] at H
 exact absurd H (by simp)
 }
 }
 {
 rw [if_neg c64] at H
 exact absurd H (by simp)
 }
 }
 {
 rw [if_neg c63] at H
 exact absurd H (by simp)
 }
 }
 {
 rw [if_neg c62] at H
 exact absurd H (by simp)
 }
 }
 {
 replace c61 := Bool.eq_false_iff.mpr c61
 subst c61
 have H1 : (interlocklaw12_LoopInto.l1 kj48 t223 t226 t229 t232 t235 x10_1 ((rd_T35 t226 x10_1).f1) (wrap64 (x12_2 + 1))) = some r := by rw [if_neg (show ¬ (false = true) by decide)] at H; exact H
 clear H
 have H := H1
 clear H1
 have H' := Aside0.mk H
 clear H
 go_wp2
 go_roundg kj48
 case measure => have := HK1.out; have := HK2.out; have := HJ17.out; have := HK4.out; have := HJ48.out; omega
 case rel => exact ⟨(wrap64 (x12_2 + 1)), (by first | rfl | (simp; done) | (simp [*]; done)), H', ⟨by have := HK1.out; have := HK2.out; have := HJ17.out; have := HK4.out; have := HJ48.out; omega⟩, ⟨by (with_reducible repeat (first | apply Kd.S_alloc | apply Kd.S_drewN | apply Kd.S_drew)); exact HO_5.out⟩, ⟨by (with_reducible repeat (first | apply Kd.S_alloc | apply Kd.S_drewN | apply Kd.S_drew)); exact HO_6.out⟩, ⟨by (with_reducible repeat (first | apply Kd.R_alloc | apply Kd.R_drewN | apply Kd.R_drew)); exact HO_7.out⟩, ⟨by (with_reducible repeat (first | apply Kd.R_alloc | apply Kd.R_drewN | apply Kd.R_drew)); exact HO_8.out⟩, ⟨by (with_reducible repeat (first | apply Kd.S_alloc | apply Kd.S_drewN | apply Kd.S_drew)); exact HO_9.out⟩, ⟨by repeat (first | (with_reducible exact HR239_1.out) | (with_reducible refine Kd.C_alloc ?_ _) | (with_reducible refine Kd.C_drewN ?_ _) | (with_reducible refine Kd.C_drew ?_) | exact HR239_1.out)⟩, ⟨by repeat (first | (with_reducible first | exact HB.out | apply below_alloc | apply pw_below_drewN | apply below_drew1) | exact HB.out)⟩⟩
 }
 )
 )
 )
 )
 }
 )
 )
 }
 {
 rw [if_neg c17] at H
 have c17b0 : decide (x12_2 < (((rd_T35 t226 x10_1).f1).length : Int)) = false := decide_eq_false c17
 clear c17
 by_cases c78 : 0 ≤ x10_1
 {
 rw [if_pos c78] at H
 have c78b0 : decide (0 ≤ x10_1) = true := decide_eq_true c78
 clear c78
 by_cases c79 : x10_1 < (t226.length : Int)
 {
 rw [if_pos c79] at H
 have c79b0 : decide (x10_1 < (t226.length : Int)) = true := decide_eq_true c79
 clear c79
 replace H := Option.bind_eq_some_iff.mp H
 obtain ⟨t241, A800, H⟩ := H
 replace H : (if t241 = true then (if x10_1 > 0 then (if 0 ≤ (wrap64 (x10_1 - 1)) then (if (wrap64 (x10_1 - 1)) < (t226.length : Int) then (if ((rd_T35 t226 x10_1).f0) ≤ ((rd_T35 t226 (wrap64 (x10_1 - 1))).f0) then (none) else (interlocklaw12_LoopInto.l0 k2 t223 t226 t229 t232 t235 (wrap64 (x10_1 + 1)))) else (none)) else (none)) else (interlocklaw12_LoopInto.l0 k2 t223 t226 t229 t232 t235 (wrap64 (x10_1 + 1)))) else (none)) = some r := H
 have A80 := Aside0.mk A800
 clear A800
 by_cases c81 : t241 = true
 as_aux_lemma => {
 subst c81
 have H1 : (if x10_1 > 0 then (if 0 ≤ (wrap64 (x10_1 - 1)) then (if (wrap64 (x10_1 - 1)) < (t226.length : Int) then (if ((rd_T35 t226 x10_1).f0) ≤ ((rd_T35 t226 (wrap64 (x10_1 - 1))).f0) then (none) else (interlocklaw12_LoopInto.l0 k2 t223 t226 t229 t232 t235 (wrap64 (x10_1 + 1)))) else (none)) else (none)) else (interlocklaw12_LoopInto.l0 k2 t223 t226 t229 t232 t235 (wrap64 (x10_1 + 1)))) = some r := by rw [if_pos rfl] at H; exact H
 clear H
 have H := H1
 clear H1
 by_cases c82 : x10_1 > 0
 {
 rw [if_pos c82] at H
 have c82b0 : decide (0 < x10_1) = true := decide_eq_true c82
 clear c82
 obtain ⟨ji83, hji83⟩ : ∃ j_ : Int, (wrap64 (x10_1 - 1)) = j_ := ⟨_, rfl⟩
 replace H : (if 0 ≤ (ji83) then (if (ji83) < (t226.length : Int) then (if ((rd_T35 t226 x10_1).f0) ≤ ((rd_T35 t226 (ji83)).f0) then (none) else (interlocklaw12_LoopInto.l0 k2 t223 t226 t229 t232 t235 (wrap64 (x10_1 + 1)))) else (none)) else (none)) = some r := by first | (rw [hji83] at H; exact H) | (simp only [hji83] at H ⊢; exact H)
 (try rw [hji83] at A80)
 have hji83w : (IntKind.i64.wrap (x10_1 - 1)) = ji83 := (i64_w _).trans hji83
 by_cases c84 : 0 ≤ (ji83)
 {
 rw [if_pos c84] at H
 have c84b0 : decide (0 ≤ (ji83)) = true := decide_eq_true c84
 clear c84
 by_cases c85 : (ji83) < (t226.length : Int)
 {
 rw [if_pos c85] at H
 have c85b0 : decide ((ji83) < (t226.length : Int)) = true := decide_eq_true c85
 clear c85
 by_cases c86 : ((rd_T35 t226 x10_1).f0) ≤ ((rd_T35 t226 (ji83)).f0)
 {
 rw [if_pos c86] at H
 exact absurd H (by simp)
 }
 as_aux_lemma => {
 rw [if_neg c86] at H
 have c86b0 : decide (((rd_T35 t226 x10_1).f0) ≤ ((rd_T35 t226 (ji83)).f0)) = false := decide_eq_false c86
 clear c86
 have H' := Aside0.mk H
 clear H
 try go_wp2
 have n0_ := Aside0.mk (Kd.S_drew HO_5.out)
 have n1_ := Aside0.mk (Kd.S_drew HO_6.out)
 have n2_ := Aside0.mk (Kd.R_drew HO_7.out)
 have n3_ := Aside0.mk (Kd.R_drew HO_8.out)
 have n4_ := Aside0.mk (Kd.S_drew HO_9.out)
 have n5_ := Aside0.mk (Kd.C_drew HR239_1.out)
 have n6_ := Aside0.mk (below_drew1 HB.out)
 clear HO_5
 clear HO_6
 clear HO_7
 clear HO_8
 clear HO_9
 clear HR239_1
 clear HB
 have HO_5 := n0_
 have HO_6 := n1_
 have HO_7 := n2_
 have HO_8 := n3_
 have HO_9 := n4_
 have HR239_1 := n5_
 have HB := n6_
 clear n0_ n1_ n2_ n3_ n4_ n5_ n6_
 have p240 : 0 ≤ (x10_1 : Int) := oD (by first | (with_reducible assumption) | assumption)
 have q240 : x10_1 < (t226.length : Int) := oD (by first | (with_reducible assumption) | assumption)
 obtain ⟨ad240, A240_1, c240_1, e240, hx240_0, hx240_1, hl240_1, hi240_1⟩ := at_T35 (Kd.S_reads' HO_6.out).2.2 x10_1 p240 q240
 obtain rfl : ad239 = ad240 := (by injection e240)
 obtain ⟨ce240, hce240, hMe240, hcc240⟩ := Kd.S_get HO_6.out z35 x10_1 p240 (by first | exact q240 | exact oD (by first | (with_reducible assumption) | assumption) | (have e_ := (Kd.S_reads' HO_6.out).1; omega))
 obtain ⟨ve240_1, rfl, ge240_1⟩ := k35_openM hMe240
 have hv240_1 := hcc240 1 _ rfl
 rw [add_field _ _ 1 (by omega)] at hv240_1
 replace hv240_1 := Option.some.inj (hv240_1.symm.trans hx240_1)
 rw [hv240_1] at ge240_1
 have HL240_1 := Aside0.mk (show Kd.R (Kd.int .i64) 3 _ _ _ _ ((rd_T35 t226 x10_1).f1) from ge240_1)
 clear hv240_1 ge240_1
 clear hcc240 hce240
 have HR240_1 := Aside0.mk hi240_1
 have HC240_1 := Aside0.mk hl240_1
 clear hi240_1 hl240_1
 replace p240 := eq_true p240
 replace q240 := eq_true q240
 have p242 : 0 ≤ (x10_1 : Int) := oD (by first | (with_reducible assumption) | assumption)
 have q242 : x10_1 < (t226.length : Int) := oD (by first | (with_reducible assumption) | assumption)
 obtain ⟨ad242, A242_1, c242_1, e242, hx242_0, hx242_1, hl242_1, hi242_1⟩ := at_T35 (Kd.S_reads' HO_6.out).2.2 x10_1 p242 q242
 obtain rfl : ad239 = ad242 := (by injection e242)
 obtain ⟨ce242, hce242, hMe242, hcc242⟩ := Kd.S_get HO_6.out z35 x10_1 p242 (by first | exact q242 | exact oD (by first | (with_reducible assumption) | assumption) | (have e_ := (Kd.S_reads' HO_6.out).1; omega))
 obtain ⟨ve242_1, rfl, ge242_1⟩ := k35_openM hMe242
 have hv242_1 := hcc242 1 _ rfl
 rw [add_field _ _ 1 (by omega)] at hv242_1
 replace hv242_1 := Option.some.inj (hv242_1.symm.trans hx242_1)
 rw [hv242_1] at ge242_1
 have HL242_1 := Aside0.mk (show Kd.R (Kd.int .i64) 3 _ _ _ _ ((rd_T35 t226 x10_1).f1) from ge242_1)
 clear hv242_1 ge242_1
 clear hcc242 hce242
 have HR242_1 := Aside0.mk hi242_1
 have HC242_1 := Aside0.mk hl242_1
 clear hi242_1 hl242_1
 replace p242 := eq_true p242
 replace q242 := eq_true q242
 have ea_ := Option.some.inj (hx240_1.symm.trans hx242_1)
 injection ea_ with ea_ en_ ec_
 subst ea_
 subst ec_
 clear en_
 have p243 : 0 ≤ ((ji83) : Int) := oD (by first | (with_reducible assumption) | assumption)
 have q243 : (ji83) < (t226.length : Int) := oD (by first | (with_reducible assumption) | assumption)
 obtain ⟨ad243, A243_1, c243_1, e243, hx243_0, hx243_1, hl243_1, hi243_1⟩ := at_T35 (Kd.S_reads' HO_6.out).2.2 (ji83) p243 q243
 obtain rfl : ad239 = ad243 := (by injection e243)
 obtain ⟨ce243, hce243, hMe243, hcc243⟩ := Kd.S_get HO_6.out z35 (ji83) p243 (by first | exact q243 | exact oD (by first | (with_reducible assumption) | assumption) | (have e_ := (Kd.S_reads' HO_6.out).1; omega))
 obtain ⟨ve243_1, rfl, ge243_1⟩ := k35_openM hMe243
 have hv243_1 := hcc243 1 _ rfl
 rw [add_field _ _ 1 (by omega)] at hv243_1
 replace hv243_1 := Option.some.inj (hv243_1.symm.trans hx243_1)
 rw [hv243_1] at ge243_1
 have HL243_1 := Aside0.mk (show Kd.R (Kd.int .i64) 3 _ _ _ _ ((rd_T35 t226 (ji83)).f1) from ge243_1)
 clear hv243_1 ge243_1
 clear hcc243 hce243
 have HR243_1 := Aside0.mk hi243_1
 have HC243_1 := Aside0.mk hl243_1
 clear hi243_1 hl243_1
 replace p243 := eq_true p243
 replace q243 := eq_true q243
 refine start_ (n := 26) (S := fun w' => w'.cell? (ad239.add ((x10_1).toNat * 2)) = some (.int .i64 ((rd_T35 t226 x10_1).f0)) ∧ w'.cell? ⟨(ad239.add ((x10_1).toNat * 2)).block, (ad239.add ((x10_1).toNat * 2)).off + 1, none⟩ = some (.slice A240_1 ((rd_T35 t226 x10_1).f1).length c240_1) ∧ w'.cell? (ad239.add ((x10_1).toNat * 2)) = some (.int .i64 ((rd_T35 t226 x10_1).f0)) ∧ w'.cell? ⟨(ad239.add ((x10_1).toNat * 2)).block, (ad239.add ((x10_1).toNat * 2)).off + 1, none⟩ = some (.slice A240_1 ((rd_T35 t226 x10_1).f1).length c240_1) ∧ w'.cell? (ad239.add (((ji83)).toNat * 2)) = some (.int .i64 ((rd_T35 t226 (ji83)).f0)) ∧ w'.cell? ⟨(ad239.add (((ji83)).toNat * 2)).block, (ad239.add (((ji83)).toNat * 2)).off + 1, none⟩ = some (.slice A243_1 ((rd_T35 t226 (ji83)).f1).length c243_1)) (ds := []) #[F,F,F,F,F,F,F,F,F,F,F,F,F,F,F,F,F,F,F,F,F,F,F,F,F,F] (by kernel_rfl) rfl rfl ⟨hx240_0, hx240_1, hx242_0, hx242_1, hx243_0, hx243_1⟩ (fun hHeld => ?_); refine with_tabW interlocklaw12_LoopInto.tab20 interlocklaw12_LoopInto.bits20 (fun HT_ HW_ => ?_)
 generalize wr.drew = w87 at HO_5 HO_6 HO_7 HO_8 HO_9 HR239_1 HB HL240_1 HL242_1 HL243_1 HR240_1 HR242_1 HR243_1 hx240_0 hx240_1 hx242_0 hx242_1 hx243_0 hx243_1 hHeld ⊢
 refine pure_ (i := 0) (N := some 150) (v := ?_) (a' := ?_) #[T,F,F,F,F,F,F,F,F,F,F,F,F,F,F,F,F,F,F,F,F,F,F,F,F,F] rfl rfl (any_of HT_.out (by kernel_rfl)) (fun _ _ _ h => h) (Or.inl ⟨by rfl, ?_⟩) ?_ ?_
 rotate_left
 {
 intro w'
 go_simp
 with_reducible rfl
 }
 rotate_left
 {
 simp only [Act.put, sT_, sZ_, sS_, i64_w, i32_w]
 rfl
 }
 refine pure_ (i := 1) (N := some 151) (v := ?_) (a' := ?_) #[T,T,F,F,F,F,F,F,F,F,F,F,F,F,F,F,F,F,F,F,F,F,F,F,F,F] rfl rfl (any_of HT_.out (by kernel_rfl)) (fun _ _ _ h => h) (Or.inl ⟨by rfl, ?_⟩) ?_ ?_
 rotate_left
 {
 intro w'
 go_simp
 with_reducible rfl
 }
 rotate_left
 {
 simp only [Act.put, sT_, sZ_, sS_, i64_w, i32_w]
 rfl
 }
 refine pure_ (i := 2) (N := some 152) (v := ?_) (a' := ?_) #[T,T,T,F,F,F,F,F,F,F,F,F,F,F,F,F,F,F,F,F,F,F,F,F,F,F] rfl rfl (any_of HT_.out (by kernel_rfl)) (fun _ _ _ h => h) (Or.inl ⟨by rfl, ?_⟩) ?_ ?_
 rotate_left
 {
 intro w'
 go_simp
 with_reducible rfl
 }
 rotate_left
 {
 simp only [Act.put, sT_, sZ_, sS_, i64_w, i32_w]
 rfl
 }
 refine pure_ (i := 3) (N := some 153) (v := ?_) (a' := ?_) #[T,T,T,T,F,F,F,F,F,F,F,F,F,F,F,F,F,F,F,F,F,F,F,F,F,F] rfl rfl (any_of HT_.out (by kernel_rfl)) (fun _ _ _ h => h) (Or.inl ⟨by rfl, ?_⟩) ?_ ?_
 rotate_left
 {
 intro w'
 go_simp
 with_reducible rfl
 }
 rotate_left
 {
 simp only [Act.put, sT_, sZ_, sS_, i64_w, i32_w]
 rfl
 }
 refine pure_ (i := 4) (N := some 154) (v := ?_) (a' := ?_) #[T,T,T,T,T,F,F,F,F,F,F,F,F,F,F,F,F,F,F,F,F,F,F,F,F,F] rfl rfl (any_of HT_.out (by kernel_rfl)) (fun _ _ _ h => h) (Or.inl ⟨by rfl, ?_⟩) ?_ ?_
 rotate_left
 {
 intro w'
 go_simp
 with_reducible rfl
 }
 rotate_left
 {
 simp only [Act.put, sT_, sZ_, sS_, i64_w, i32_w]
 rfl
 }
 refine take_ (i := 5) (N := some 155) (v := ?_) (a' := ?_) #[T,T,T,T,T,T,F,F,F,F,F,F,F,F,F,F,F,F,F,F,F,F,F,F,F,F] rfl rfl (take_ofW HT_.out HW_.out (by kernel_rfl)) (fun _ _ _ h => h) (Or.inl ⟨by rfl, ?_⟩) hHeld ?_ ?_
 rotate_left
 {
 rintro w' ⟨s0, s1, s2, s3, s4, s5⟩
 go_simp
 with_reducible rfl
 }
 rotate_left
 {
 simp only [Act.put, sT_, sZ_, sS_, i64_w, i32_w]
 rfl
 }
 refine one_ (i := 6) (N := some 156) #[T,T,T,T,T,T,T,F,F,F,F,F,F,F,F,F,F,F,F,F,F,F,F,F,F,F] rfl rfl (one_of HT_.out (by kernel_rfl)) (by decide) (fun K hK => ?_)
 refine goes_ Tryd.func13 (by kernel_rfl) rfl #[.slice A239_1 ((rd_T35 t226 x10_1).f1).length c239_1, .int .i64 ((rd_T35 t226 x10_1).f0)] (by rfl) rfl rfl (by (try simp only [List.map_toArray, List.map_cons, List.map_nil]); first | done | rfl | (simp only [List.length_drop, List.length_take]; rfl)) ?_
 with_reducible refine (interlocklaw12_has.calls k2 _ _ ((rd_T35 t226 x10_1).f1) ((rd_T35 t226 x10_1).f0) true _ ?side1 ?side2 A80.out).mono ?_
 (case side1 => repeat (first | exact (by repeat (first | (with_reducible exact HR239_1.out) | (with_reducible refine Kd.C_alloc ?_ _) | (with_reducible refine Kd.C_drewN ?_ _) | (with_reducible refine Kd.C_drew ?_) | exact HR239_1.out)) | (with_reducible refine Kd.C_alloc ?_ _) | (with_reducible refine Kd.C_drewN ?_ _) | (with_reducible refine Kd.C_drew ?_)))
 (case side2 => exact HC239_1.out)
 rintro e w' ⟨rfl, ⟨nd, rfl⟩⟩
 refine ⟨_, rfl, ?_⟩
 refine hK.out _ _ ⟨hHeld.1, hHeld.2.1, hHeld.2.2.1, hHeld.2.2.2.1, hHeld.2.2.2.2.1, hHeld.2.2.2.2.2⟩ (fun hHeld => ?_)
 clear hK K
 refine norm_ (a' := ?_) ?_ ?_
 rotate_left
 {
 show Act.put _ (some 156) _ = _
 simp only [Act.put, sT_, sZ_, sS_, i64_w, i32_w]
 rfl
 }
 refine pure_ (i := 7) (N := some 157) (v := ?_) (a' := ?_) #[T,T,T,T,T,T,T,T,F,F,F,F,F,F,F,F,F,F,F,F,F,F,F,F,F,F] rfl rfl (any_of HT_.out (by kernel_rfl)) (fun _ _ _ h => h) (Or.inl ⟨by rfl, ?_⟩) ?_ ?_
 rotate_left
 {
 intro w'
 go_simp
 with_reducible rfl
 }
 rotate_left
 {
 simp only [Act.put, sT_, sZ_, sS_, i64_w, i32_w]
 rfl
 }
 refine pure_ (i := 8) (N := some 158) (v := ?_) (a' := ?_) #[T,T,T,T,T,T,T,T,T,F,F,F,F,F,F,F,F,F,F,F,F,F,F,F,F,F] rfl rfl (any_of HT_.out (by kernel_rfl)) (fun _ _ _ h => h) (Or.inl ⟨by rfl, ?_⟩) ?_ ?_
 rotate_left
 {
 intro w'
 go_simp
 with_reducible rfl
 }
 rotate_left
 {
 simp only [Act.put, sT_, sZ_, sS_, i64_w, i32_w]
 rfl
 }
 refine pure_ (i := 9) (N := some 159) (v := ?_) (a' := ?_) #[T,T,T,T,T,T,T,T,T,T,F,F,F,F,F,F,F,F,F,F,F,F,F,F,F,F] rfl rfl (any_of HT_.out (by kernel_rfl)) (fun _ _ _ h => h) (Or.inl ⟨by rfl, ?_⟩) ?_ ?_
 rotate_left
 {
 intro w'
 go_simp
 with_reducible rfl
 }
 rotate_left
 {
 simp only [Act.put, sT_, sZ_, sS_, i64_w, i32_w]
 rfl
 }
 refine pure_ (i := 10) (N := some 160) (v := ?_) (a' := ?_) #[T,T,T,T,T,T,T,T,T,T,T,F,F,F,F,F,F,F,F,F,F,F,F,F,F,F] rfl rfl (any_of HT_.out (by kernel_rfl)) (fun _ _ _ h => h) (Or.inl ⟨by rfl, ?_⟩) ?_ ?_
 rotate_left
 {
 intro w'
 go_simp
 with_reducible rfl
 }
 rotate_left
 {
 simp only [Act.put, sT_, sZ_, sS_, i64_w, i32_w]
 rfl
 }
 refine pure_ (i := 11) (N := some 161) (v := ?_) (a' := ?_) #[T,T,T,T,T,T,T,T,T,T,T,T,F,F,F,F,F,F,F,F,F,F,F,F,F,F] rfl rfl (any_of HT_.out (by kernel_rfl)) (fun _ _ _ h => h) (Or.inl ⟨by rfl, ?_⟩) ?_ ?_
 rotate_left
 {
 intro w'
 go_simp
 with_reducible rfl
 }
 rotate_left
 {
 simp only [Act.put, sT_, sZ_, sS_, i64_w, i32_w]
 rfl
 }
 refine pure_ (i := 12) (N := some 162) (v := ?_) (a' := ?_) #[T,T,T,T,T,T,T,T,T,T,T,T,T,F,F,F,F,F,F,F,F,F,F,F,F,F] rfl rfl (any_of HT_.out (by kernel_rfl)) (fun _ _ _ h => h) (Or.inl ⟨by rfl, ?_⟩) ?_ ?_
 rotate_left
 {
 intro w'
 go_simp
 with_reducible rfl
 }
 rotate_left
 {
 simp only [Act.put, sT_, sZ_, sS_, i64_w, i32_w]
 rfl
 }
 refine pure_ (i := 13) (N := some 163) (v := ?_) (a' := ?_) #[T,T,T,T,T,T,T,T,T,T,T,T,T,T,F,F,F,F,F,F,F,F,F,F,F,F] rfl rfl (any_of HT_.out (by kernel_rfl)) (fun _ _ _ h => h) (Or.inl ⟨by rfl, ?_⟩) ?_ ?_
 rotate_left
 {
 intro w'
 go_simp
 with_reducible rfl
 }
 rotate_left
 {
 simp only [Act.put, sT_, sZ_, sS_, i64_w, i32_w]
 rfl
 }
 refine pure_ (i := 14) (N := some 164) (v := ?_) (a' := ?_) #[T,T,T,T,T,T,T,T,T,T,T,T,T,T,T,F,F,F,F,F,F,F,F,F,F,F] rfl rfl (any_of HT_.out (by kernel_rfl)) (fun _ _ _ h => h) (Or.inl ⟨by rfl, ?_⟩) ?_ ?_
 rotate_left
 {
 intro w'
 go_simp
 with_reducible rfl
 }
 rotate_left
 {
 simp only [Act.put, sT_, sZ_, sS_, i64_w, i32_w]
 rfl
 }
 refine pure_ (i := 15) (N := some 165) (v := ?_) (a' := ?_) #[T,T,T,T,T,T,T,T,T,T,T,T,T,T,T,T,F,F,F,F,F,F,F,F,F,F] rfl rfl (any_of HT_.out (by kernel_rfl)) (fun _ _ _ h => h) (Or.inl ⟨by rfl, ?_⟩) ?_ ?_
 rotate_left
 {
 intro w'
 go_simp
 with_reducible rfl
 }
 rotate_left
 {
 simp only [Act.put, sT_, sZ_, sS_, i64_w, i32_w]
 rfl
 }
 refine pure_ (i := 17) (N := some 167) (v := ?_) (a' := ?_) #[T,T,T,T,T,T,T,T,T,T,T,T,T,T,T,T,F,T,F,F,F,F,F,F,F,F] rfl rfl (any_of HT_.out (by kernel_rfl)) (fun _ _ _ h => h) (Or.inl ⟨by rfl, ?_⟩) ?_ ?_
 rotate_left
 {
 intro w'
 go_simp
 with_reducible rfl
 }
 rotate_left
 {
 simp only [Act.put, sT_, sZ_, sS_, i64_w, i32_w]
 rfl
 }
 refine pure_ (i := 18) (N := some 168) (v := ?_) (a' := ?_) #[T,T,T,T,T,T,T,T,T,T,T,T,T,T,T,T,F,T,T,F,F,F,F,F,F,F] rfl rfl (any_of HT_.out (by kernel_rfl)) (fun _ _ _ h => h) (Or.inl ⟨by rfl, ?_⟩) ?_ ?_
 rotate_left
 {
 intro w'
 go_simp
 with_reducible rfl
 }
 rotate_left
 {
 simp only [Act.put, sT_, sZ_, sS_, i64_w, i32_w]
 rfl
 }
 refine pure_ (i := 19) (N := some 169) (v := ?_) (a' := ?_) #[T,T,T,T,T,T,T,T,T,T,T,T,T,T,T,T,F,T,T,T,F,F,F,F,F,F] rfl rfl (any_of HT_.out (by kernel_rfl)) (fun _ _ _ h => h) (Or.inl ⟨by rfl, ?_⟩) ?_ ?_
 rotate_left
 {
 intro w'
 go_simp
 with_reducible rfl
 }
 rotate_left
 {
 simp only [Act.put, sT_, sZ_, sS_, i64_w, i32_w]
 rfl
 }
 refine pure_ (i := 20) (N := some 170) (v := ?_) (a' := ?_) #[T,T,T,T,T,T,T,T,T,T,T,T,T,T,T,T,F,T,T,T,T,F,F,F,F,F] rfl rfl (any_of HT_.out (by kernel_rfl)) (fun _ _ _ h => h) (Or.inl ⟨by rfl, ?_⟩) ?_ ?_
 rotate_left
 {
 intro w'
 go_simp
 with_reducible rfl
 }
 rotate_left
 {
 simp only [Act.put, sT_, sZ_, sS_, i64_w, i32_w]
 rfl
 }
 refine pure_ (i := 21) (N := some 171) (v := ?_) (a' := ?_) #[T,T,T,T,T,T,T,T,T,T,T,T,T,T,T,T,F,T,T,T,T,T,F,F,F,F] rfl rfl (any_of HT_.out (by kernel_rfl)) (fun _ _ _ h => h) (Or.inl ⟨by rfl, ?_⟩) ?_ ?_
 rotate_left
 {
 intro w'
 go_simp
 with_reducible rfl
 }
 rotate_left
 {
 simp only [Act.put, sT_, sZ_, sS_, i64_w, i32_w]
 rfl
 }
 refine take_ (i := 16) (N := some 166) (v := ?_) (a' := ?_) #[T,T,T,T,T,T,T,T,T,T,T,T,T,T,T,T,T,T,T,T,T,T,F,F,F,F] rfl rfl (take_ofW HT_.out HW_.out (by kernel_rfl)) (fun _ _ _ h => h) (Or.inl ⟨by rfl, ?_⟩) hHeld ?_ ?_
 rotate_left
 {
 rintro w' ⟨s0, s1, s2, s3, s4, s5⟩
 go_simp
 with_reducible rfl
 }
 rotate_left
 {
 simp only [Act.put, sT_, sZ_, sS_, i64_w, i32_w]
 rfl
 }
 refine take_ (i := 22) (N := some 172) (v := ?_) (a' := ?_) #[T,T,T,T,T,T,T,T,T,T,T,T,T,T,T,T,T,T,T,T,T,T,T,F,F,F] rfl rfl (take_ofW HT_.out HW_.out (by kernel_rfl)) (fun _ _ _ h => h) (Or.inl ⟨by rfl, ?_⟩) hHeld ?_ ?_
 rotate_left
 {
 rintro w' ⟨s0, s1, s2, s3, s4, s5⟩
 go_simp
 with_reducible rfl
 }
 rotate_left
 {
 simp only [Act.put, sT_, sZ_, sS_, i64_w, i32_w]
 rfl
 }
 refine pure_ (i := 23) (N := some 173) (v := ?_) (a' := ?_) #[T,T,T,T,T,T,T,T,T,T,T,T,T,T,T,T,T,T,T,T,T,T,T,T,F,F] rfl rfl (any_of HT_.out (by kernel_rfl)) (fun _ _ _ h => h) (Or.inl ⟨by rfl, ?_⟩) ?_ ?_
 rotate_left
 {
 intro w'
 go_simp
 with_reducible rfl
 }
 rotate_left
 {
 simp only [Act.put, sT_, sZ_, sS_, i64_w, i32_w]
 rfl
 }
 refine pure_ (i := 24) (N := some 174) (v := ?_) (a' := ?_) #[T,T,T,T,T,T,T,T,T,T,T,T,T,T,T,T,T,T,T,T,T,T,T,T,T,F] rfl rfl (any_of HT_.out (by kernel_rfl)) (fun _ _ _ h => h) (Or.inl ⟨by rfl, ?_⟩) ?_ ?_
 rotate_left
 {
 intro w'
 go_simp
 with_reducible rfl
 }
 rotate_left
 {
 simp only [Act.put, sT_, sZ_, sS_, i64_w, i32_w]
 rfl
 }
 refine pure_ (i := 25) (N := some 175) (v := ?_) (a' := ?_) #[T,T,T,T,T,T,T,T,T,T,T,T,T,T,T,T,T,T,T,T,T,T,T,T,T,T] rfl rfl (any_of HT_.out (by kernel_rfl)) (fun _ _ _ h => h) (Or.inl ⟨by rfl, ?_⟩) ?_ ?_
 rotate_left
 {
 intro w'
 go_simp
 with_reducible rfl
 }
 rotate_left
 {
 simp only [Act.put, sT_, sZ_, sS_, i64_w, i32_w]
 rfl
 }
 refine done_ (done_of HT_.out (by kernel_rfl)) ?_
 try go_wp2
 go_roundg k2
 case measure => have := HK1.out; have := HK2.out; omega
 case rel => exact ⟨(wrap64 (x10_1 + 1)), (by first | rfl | (simp; done) | (simp [*]; done)), H', ⟨by have := HK1.out; have := HK2.out; omega⟩, ⟨by (with_reducible repeat (first | apply Kd.S_alloc | apply Kd.S_drewN | apply Kd.S_drew)); exact HO_5.out⟩, ⟨by (with_reducible repeat (first | apply Kd.S_alloc | apply Kd.S_drewN | apply Kd.S_drew)); exact HO_6.out⟩, ⟨by (with_reducible repeat (first | apply Kd.R_alloc | apply Kd.R_drewN | apply Kd.R_drew)); exact HO_7.out⟩, ⟨by (with_reducible repeat (first | apply Kd.R_alloc | apply Kd.R_drewN | apply Kd.R_drew)); exact HO_8.out⟩, ⟨by (with_reducible repeat (first | apply Kd.S_alloc | apply Kd.S_drewN | apply Kd.S_drew)); exact HO_9.out⟩, ⟨by repeat (first | (with_reducible first | exact HB.out | apply below_alloc | apply pw_below_drewN | apply below_drew1) | exact HB.out)⟩⟩
 }
 }
 {
 rw [if_neg c85] at H
 exact absurd H (by simp)
 }
 }
 {
 rw [if_neg c84] at H
 exact absurd H (by simp)
 }
 }
 as_aux_lemma => {
 rw [if_neg c82] at H
 have c82b0 : decide (0 < x10_1) = false := decide_eq_false c82
 clear c82
 have H' := Aside0.mk H
 clear H
 try go_wp2
 have n0_ := Aside0.mk (Kd.S_drew HO_5.out)
 have n1_ := Aside0.mk (Kd.S_drew HO_6.out)
 have n2_ := Aside0.mk (Kd.R_drew HO_7.out)
 have n3_ := Aside0.mk (Kd.R_drew HO_8.out)
 have n4_ := Aside0.mk (Kd.S_drew HO_9.out)
 have n5_ := Aside0.mk (Kd.C_drew HR239_1.out)
 have n6_ := Aside0.mk (below_drew1 HB.out)
 clear HO_5
 clear HO_6
 clear HO_7
 clear HO_8
 clear HO_9
 clear HR239_1
 clear HB
 have HO_5 := n0_
 have HO_6 := n1_
 have HO_7 := n2_
 have HO_8 := n3_
 have HO_9 := n4_
 have HR239_1 := n5_
 have HB := n6_
 clear n0_ n1_ n2_ n3_ n4_ n5_ n6_
 have p240 : 0 ≤ (x10_1 : Int) := oD (by first | (with_reducible assumption) | assumption)
 have q240 : x10_1 < (t226.length : Int) := oD (by first | (with_reducible assumption) | assumption)
 obtain ⟨ad240, A240_1, c240_1, e240, hx240_0, hx240_1, hl240_1, hi240_1⟩ := at_T35 (Kd.S_reads' HO_6.out).2.2 x10_1 p240 q240
 obtain rfl : ad239 = ad240 := (by injection e240)
 obtain ⟨ce240, hce240, hMe240, hcc240⟩ := Kd.S_get HO_6.out z35 x10_1 p240 (by first | exact q240 | exact oD (by first | (with_reducible assumption) | assumption) | (have e_ := (Kd.S_reads' HO_6.out).1; omega))
 obtain ⟨ve240_1, rfl, ge240_1⟩ := k35_openM hMe240
 have hv240_1 := hcc240 1 _ rfl
 rw [add_field _ _ 1 (by omega)] at hv240_1
 replace hv240_1 := Option.some.inj (hv240_1.symm.trans hx240_1)
 rw [hv240_1] at ge240_1
 have HL240_1 := Aside0.mk (show Kd.R (Kd.int .i64) 3 _ _ _ _ ((rd_T35 t226 x10_1).f1) from ge240_1)
 clear hv240_1 ge240_1
 clear hcc240 hce240
 have HR240_1 := Aside0.mk hi240_1
 have HC240_1 := Aside0.mk hl240_1
 clear hi240_1 hl240_1
 replace p240 := eq_true p240
 replace q240 := eq_true q240
 refine start_ (n := 26) (S := fun w' => w'.cell? (ad239.add ((x10_1).toNat * 2)) = some (.int .i64 ((rd_T35 t226 x10_1).f0)) ∧ w'.cell? ⟨(ad239.add ((x10_1).toNat * 2)).block, (ad239.add ((x10_1).toNat * 2)).off + 1, none⟩ = some (.slice A240_1 ((rd_T35 t226 x10_1).f1).length c240_1)) (ds := []) #[F,F,F,F,F,F,F,F,F,F,F,F,F,F,F,F,F,F,F,F,F,F,F,F,F,F] (by kernel_rfl) rfl rfl ⟨hx240_0, hx240_1⟩ (fun hHeld => ?_); refine with_tabW interlocklaw12_LoopInto.tab20 interlocklaw12_LoopInto.bits20 (fun HT_ HW_ => ?_)
 generalize wr.drew = w88 at HO_5 HO_6 HO_7 HO_8 HO_9 HR239_1 HB HL240_1 HR240_1 hx240_0 hx240_1 hHeld ⊢
 refine pure_ (i := 0) (N := some 150) (v := ?_) (a' := ?_) #[T,F,F,F,F,F,F,F,F,F,F,F,F,F,F,F,F,F,F,F,F,F,F,F,F,F] rfl rfl (any_of HT_.out (by kernel_rfl)) (fun _ _ _ h => h) (Or.inl ⟨by rfl, ?_⟩) ?_ ?_
 rotate_left
 {
 intro w'
 go_simp
 with_reducible rfl
 }
 rotate_left
 {
 simp only [Act.put, sT_, sZ_, sS_, i64_w, i32_w]
 rfl
 }
 refine pure_ (i := 1) (N := some 151) (v := ?_) (a' := ?_) #[T,T,F,F,F,F,F,F,F,F,F,F,F,F,F,F,F,F,F,F,F,F,F,F,F,F] rfl rfl (any_of HT_.out (by kernel_rfl)) (fun _ _ _ h => h) (Or.inl ⟨by rfl, ?_⟩) ?_ ?_
 rotate_left
 {
 intro w'
 go_simp
 with_reducible rfl
 }
 rotate_left
 {
 simp only [Act.put, sT_, sZ_, sS_, i64_w, i32_w]
 rfl
 }
 refine pure_ (i := 2) (N := some 152) (v := ?_) (a' := ?_) #[T,T,T,F,F,F,F,F,F,F,F,F,F,F,F,F,F,F,F,F,F,F,F,F,F,F] rfl rfl (any_of HT_.out (by kernel_rfl)) (fun _ _ _ h => h) (Or.inl ⟨by rfl, ?_⟩) ?_ ?_
 rotate_left
 {
 intro w'
 go_simp
 with_reducible rfl
 }
 rotate_left
 {
 simp only [Act.put, sT_, sZ_, sS_, i64_w, i32_w]
 rfl
 }
 refine pure_ (i := 3) (N := some 153) (v := ?_) (a' := ?_) #[T,T,T,T,F,F,F,F,F,F,F,F,F,F,F,F,F,F,F,F,F,F,F,F,F,F] rfl rfl (any_of HT_.out (by kernel_rfl)) (fun _ _ _ h => h) (Or.inl ⟨by rfl, ?_⟩) ?_ ?_
 rotate_left
 {
 intro w'
 go_simp
 with_reducible rfl
 }
 rotate_left
 {
 simp only [Act.put, sT_, sZ_, sS_, i64_w, i32_w]
 rfl
 }
 refine pure_ (i := 4) (N := some 154) (v := ?_) (a' := ?_) #[T,T,T,T,T,F,F,F,F,F,F,F,F,F,F,F,F,F,F,F,F,F,F,F,F,F] rfl rfl (any_of HT_.out (by kernel_rfl)) (fun _ _ _ h => h) (Or.inl ⟨by rfl, ?_⟩) ?_ ?_
 rotate_left
 {
 intro w'
 go_simp
 with_reducible rfl
 }
 rotate_left
 {
 simp only [Act.put, sT_, sZ_, sS_, i64_w, i32_w]
 rfl
 }
 refine take_ (i := 5) (N := some 155) (v := ?_) (a' := ?_) #[T,T,T,T,T,T,F,F,F,F,F,F,F,F,F,F,F,F,F,F,F,F,F,F,F,F] rfl rfl (take_ofW HT_.out HW_.out (by kernel_rfl)) (fun _ _ _ h => h) (Or.inl ⟨by rfl, ?_⟩) hHeld ?_ ?_
 rotate_left
 {
 rintro w' ⟨s0, s1⟩
 go_simp
 with_reducible rfl
 }
 rotate_left
 {
 simp only [Act.put, sT_, sZ_, sS_, i64_w, i32_w]
 rfl
 }
 refine one_ (i := 6) (N := some 156) #[T,T,T,T,T,T,T,F,F,F,F,F,F,F,F,F,F,F,F,F,F,F,F,F,F,F] rfl rfl (one_of HT_.out (by kernel_rfl)) (by decide) (fun K hK => ?_)
 refine goes_ Tryd.func13 (by kernel_rfl) rfl #[.slice A239_1 ((rd_T35 t226 x10_1).f1).length c239_1, .int .i64 ((rd_T35 t226 x10_1).f0)] (by rfl) rfl rfl (by (try simp only [List.map_toArray, List.map_cons, List.map_nil]); first | done | rfl | (simp only [List.length_drop, List.length_take]; rfl)) ?_
 with_reducible refine (interlocklaw12_has.calls k2 _ _ ((rd_T35 t226 x10_1).f1) ((rd_T35 t226 x10_1).f0) true _ ?side1 ?side2 A80.out).mono ?_
 (case side1 => repeat (first | exact (by repeat (first | (with_reducible exact HR239_1.out) | (with_reducible refine Kd.C_alloc ?_ _) | (with_reducible refine Kd.C_drewN ?_ _) | (with_reducible refine Kd.C_drew ?_) | exact HR239_1.out)) | (with_reducible refine Kd.C_alloc ?_ _) | (with_reducible refine Kd.C_drewN ?_ _) | (with_reducible refine Kd.C_drew ?_)))
 (case side2 => exact HC239_1.out)
 rintro e w' ⟨rfl, ⟨nd, rfl⟩⟩
 refine ⟨_, rfl, ?_⟩
 refine hK.out _ _ ⟨hHeld.1, hHeld.2⟩ (fun hHeld => ?_)
 clear hK K
 refine norm_ (a' := ?_) ?_ ?_
 rotate_left
 {
 show Act.put _ (some 156) _ = _
 simp only [Act.put, sT_, sZ_, sS_, i64_w, i32_w]
 rfl
 }
 refine pure_ (i := 7) (N := some 157) (v := ?_) (a' := ?_) #[T,T,T,T,T,T,T,T,F,F,F,F,F,F,F,F,F,F,F,F,F,F,F,F,F,F] rfl rfl (any_of HT_.out (by kernel_rfl)) (fun _ _ _ h => h) (Or.inl ⟨by rfl, ?_⟩) ?_ ?_
 rotate_left
 {
 intro w'
 go_simp
 with_reducible rfl
 }
 rotate_left
 {
 simp only [Act.put, sT_, sZ_, sS_, i64_w, i32_w]
 rfl
 }
 refine pure_ (i := 8) (N := some 158) (v := ?_) (a' := ?_) #[T,T,T,T,T,T,T,T,T,F,F,F,F,F,F,F,F,F,F,F,F,F,F,F,F,F] rfl rfl (any_of HT_.out (by kernel_rfl)) (fun _ _ _ h => h) (Or.inl ⟨by rfl, ?_⟩) ?_ ?_
 rotate_left
 {
 intro w'
 go_simp
 with_reducible rfl
 }
 rotate_left
 {
 simp only [Act.put, sT_, sZ_, sS_, i64_w, i32_w]
 rfl
 }
 refine pure_ (i := 9) (N := some 159) (v := ?_) (a' := ?_) #[T,T,T,T,T,T,T,T,T,T,F,F,F,F,F,F,F,F,F,F,F,F,F,F,F,F] rfl rfl (any_of HT_.out (by kernel_rfl)) (fun _ _ _ h => h) (Or.inl ⟨by rfl, ?_⟩) ?_ ?_
 rotate_left
 {
 intro w'
 go_simp
 with_reducible rfl
 }
 rotate_left
 {
 simp only [Act.put, sT_, sZ_, sS_, i64_w, i32_w]
 rfl
 }
 refine pure_ (i := 10) (N := some 160) (v := ?_) (a' := ?_) #[T,T,T,T,T,T,T,T,T,T,T,F,F,F,F,F,F,F,F,F,F,F,F,F,F,F] rfl rfl (any_of HT_.out (by kernel_rfl)) (fun _ _ _ h => h) (Or.inl ⟨by rfl, ?_⟩) ?_ ?_
 rotate_left
 {
 intro w'
 go_simp
 with_reducible rfl
 }
 rotate_left
 {
 simp only [Act.put, sT_, sZ_, sS_, i64_w, i32_w]
 rfl
 }
 refine pure_ (i := 11) (N := some 161) (v := ?_) (a' := ?_) #[T,T,T,T,T,T,T,T,T,T,T,T,F,F,F,F,F,F,F,F,F,F,F,F,F,F] rfl rfl (any_of HT_.out (by kernel_rfl)) (fun _ _ _ h => h) (Or.inl ⟨by rfl, ?_⟩) ?_ ?_
 rotate_left
 {
 intro w'
 go_simp
 with_reducible rfl
 }
 rotate_left
 {
 simp only [Act.put, sT_, sZ_, sS_, i64_w, i32_w]
 rfl
 }
 refine pure_ (i := 12) (N := some 162) (v := undef) (a' := ?_) #[T,T,T,T,T,T,T,T,T,T,T,T,T,F,F,F,F,F,F,F,F,F,F,F,F,F] rfl rfl (any_of HT_.out (by kernel_rfl)) (fun _ _ _ h => h) (Or.inr ⟨by rfl, rfl⟩) ?_ ?_
 rotate_left
 {
 simp only [Act.put, sT_, sZ_, sS_, i64_w, i32_w]
 rfl
 }
 refine pure_ (i := 13) (N := some 163) (v := undef) (a' := ?_) #[T,T,T,T,T,T,T,T,T,T,T,T,T,T,F,F,F,F,F,F,F,F,F,F,F,F] rfl rfl (any_of HT_.out (by kernel_rfl)) (fun _ _ _ h => h) (Or.inr ⟨by rfl, rfl⟩) ?_ ?_
 rotate_left
 {
 simp only [Act.put, sT_, sZ_, sS_, i64_w, i32_w]
 rfl
 }
 refine pure_ (i := 14) (N := some 164) (v := undef) (a' := ?_) #[T,T,T,T,T,T,T,T,T,T,T,T,T,T,T,F,F,F,F,F,F,F,F,F,F,F] rfl rfl (any_of HT_.out (by kernel_rfl)) (fun _ _ _ h => h) (Or.inr ⟨by rfl, rfl⟩) ?_ ?_
 rotate_left
 {
 simp only [Act.put, sT_, sZ_, sS_, i64_w, i32_w]
 rfl
 }
 refine pure_ (i := 15) (N := some 165) (v := undef) (a' := ?_) #[T,T,T,T,T,T,T,T,T,T,T,T,T,T,T,T,F,F,F,F,F,F,F,F,F,F] rfl rfl (any_of HT_.out (by kernel_rfl)) (fun _ _ _ h => h) (Or.inr ⟨by rfl, rfl⟩) ?_ ?_
 rotate_left
 {
 simp only [Act.put, sT_, sZ_, sS_, i64_w, i32_w]
 rfl
 }
 refine pure_ (i := 16) (N := some 166) (v := undef) (a' := ?_) #[T,T,T,T,T,T,T,T,T,T,T,T,T,T,T,T,T,F,F,F,F,F,F,F,F,F] rfl rfl (any_of HT_.out (by kernel_rfl)) (fun _ _ _ h => h) (Or.inr ⟨by rfl, rfl⟩) ?_ ?_
 rotate_left
 {
 simp only [Act.put, sT_, sZ_, sS_, i64_w, i32_w]
 rfl
 }
 refine pure_ (i := 17) (N := some 167) (v := undef) (a' := ?_) #[T,T,T,T,T,T,T,T,T,T,T,T,T,T,T,T,T,T,F,F,F,F,F,F,F,F] rfl rfl (any_of HT_.out (by kernel_rfl)) (fun _ _ _ h => h) (Or.inr ⟨by rfl, rfl⟩) ?_ ?_
 rotate_left
 {
 simp only [Act.put, sT_, sZ_, sS_, i64_w, i32_w]
 rfl
 }
 refine pure_ (i := 18) (N := some 168) (v := undef) (a' := ?_) #[T,T,T,T,T,T,T,T,T,T,T,T,T,T,T,T,T,T,T,F,F,F,F,F,F,F] rfl rfl (any_of HT_.out (by kernel_rfl)) (fun _ _ _ h => h) (Or.inr ⟨by rfl, rfl⟩) ?_ ?_
 rotate_left
 {
 simp only [Act.put, sT_, sZ_, sS_, i64_w, i32_w]
 rfl
 }
 refine pure_ (i := 19) (N := some 169) (v := undef) (a' := ?_) #[T,T,T,T,T,T,T,T,T,T,T,T,T,T,T,T,T,T,T,T,F,F,F,F,F,F] rfl rfl (any_of HT_.out (by kernel_rfl)) (fun _ _ _ h => h) (Or.inr ⟨by rfl, rfl⟩) ?_ ?_
 rotate_left
 {
 simp only [Act.put, sT_, sZ_, sS_, i64_w, i32_w]
 rfl
 }
 refine pure_ (i := 20) (N := some 170) (v := undef) (a' := ?_) #[T,T,T,T,T,T,T,T,T,T,T,T,T,T,T,T,T,T,T,T,T,F,F,F,F,F] rfl rfl (any_of HT_.out (by kernel_rfl)) (fun _ _ _ h => h) (Or.inr ⟨by rfl, rfl⟩) ?_ ?_
 rotate_left
 {
 simp only [Act.put, sT_, sZ_, sS_, i64_w, i32_w]
 rfl
 }
 refine pure_ (i := 21) (N := some 171) (v := undef) (a' := ?_) #[T,T,T,T,T,T,T,T,T,T,T,T,T,T,T,T,T,T,T,T,T,T,F,F,F,F] rfl rfl (any_of HT_.out (by kernel_rfl)) (fun _ _ _ h => h) (Or.inr ⟨by rfl, rfl⟩) ?_ ?_
 rotate_left
 {
 simp only [Act.put, sT_, sZ_, sS_, i64_w, i32_w]
 rfl
 }
 refine pure_ (i := 22) (N := some 172) (v := undef) (a' := ?_) #[T,T,T,T,T,T,T,T,T,T,T,T,T,T,T,T,T,T,T,T,T,T,T,F,F,F] rfl rfl (any_of HT_.out (by kernel_rfl)) (fun _ _ _ h => h) (Or.inr ⟨by rfl, rfl⟩) ?_ ?_
 rotate_left
 {
 simp only [Act.put, sT_, sZ_, sS_, i64_w, i32_w]
 rfl
 }
 refine pure_ (i := 23) (N := some 173) (v := undef) (a' := ?_) #[T,T,T,T,T,T,T,T,T,T,T,T,T,T,T,T,T,T,T,T,T,T,T,T,F,F] rfl rfl (any_of HT_.out (by kernel_rfl)) (fun _ _ _ h => h) (Or.inr ⟨by rfl, rfl⟩) ?_ ?_
 rotate_left
 {
 simp only [Act.put, sT_, sZ_, sS_, i64_w, i32_w]
 rfl
 }
 refine pure_ (i := 24) (N := some 174) (v := ?_) (a' := ?_) #[T,T,T,T,T,T,T,T,T,T,T,T,T,T,T,T,T,T,T,T,T,T,T,T,T,F] rfl rfl (any_of HT_.out (by kernel_rfl)) (fun _ _ _ h => h) (Or.inl ⟨by rfl, ?_⟩) ?_ ?_
 rotate_left
 {
 intro w'
 go_simp
 with_reducible rfl
 }
 rotate_left
 {
 simp only [Act.put, sT_, sZ_, sS_, i64_w, i32_w]
 rfl
 }
 refine pure_ (i := 25) (N := some 175) (v := ?_) (a' := ?_) #[T,T,T,T,T,T,T,T,T,T,T,T,T,T,T,T,T,T,T,T,T,T,T,T,T,T] rfl rfl (any_of HT_.out (by kernel_rfl)) (fun _ _ _ h => h) (Or.inl ⟨by rfl, ?_⟩) ?_ ?_
 rotate_left
 {
 intro w'
 go_simp
 with_reducible rfl
 }
 rotate_left
 {
 simp only [Act.put, sT_, sZ_, sS_, i64_w, i32_w]
 rfl
 }
 refine done_ (done_of HT_.out (by kernel_rfl)) ?_
 try go_wp2
 go_roundg k2
 case measure => have := HK1.out; have := HK2.out; omega
 case rel => exact ⟨(wrap64 (x10_1 + 1)), (by first | rfl | (simp; done) | (simp [*]; done)), H', ⟨by have := HK1.out; have := HK2.out; omega⟩, ⟨by (with_reducible repeat (first | apply Kd.S_alloc | apply Kd.S_drewN | apply Kd.S_drew)); exact HO_5.out⟩, ⟨by (with_reducible repeat (first | apply Kd.S_alloc | apply Kd.S_drewN | apply Kd.S_drew)); exact HO_6.out⟩, ⟨by (with_reducible repeat (first | apply Kd.R_alloc | apply Kd.R_drewN | apply Kd.R_drew)); exact HO_7.out⟩, ⟨by (with_reducible repeat (first | apply Kd.R_alloc | apply Kd.R_drewN | apply Kd.R_drew)); exact HO_8.out⟩, ⟨by (with_reducible repeat (first | apply Kd.S_alloc | apply Kd.S_drewN | apply Kd.S_drew)); exact HO_9.out⟩, ⟨by repeat (first | (with_reducible first | exact HB.out | apply below_alloc | apply pw_below_drewN | apply below_drew1) | exact HB.out)⟩⟩
 }
 }
 {
 replace c81 := Bool.eq_false_iff.mpr c81
 subst c81
 have H1 : (none) = some r := by rw [if_neg (show ¬ (false = true) by decide)] at H; exact H
 clear H
 have H := H1
 clear H1
 exact absurd H (by simp)
 }
 }
 {
 rw [if_neg c79] at H
 exact absurd H (by simp)
 }
 }
 {
 rw [if_neg c78] at H
 exact absurd H (by simp)
 }
 }
 )
 )
 }
 {
 rw [if_neg c15] at H
 exact absurd H (by simp)
 }
 }
 {
 rw [if_neg c14] at H
 have c14b0 : decide (x10_1 < (t226.length : Int)) = false := decide_eq_false c14
 clear c14
 replace H := Option.bind_eq_some_iff.mp H
 obtain ⟨t238, A890, H⟩ := H
 replace H : (some t238) = some r := H
 have A89 := Aside0.mk A890
 clear A890
 obtain rfl := Option.some.inj H
 obtain ⟨Ao90, co90, eo90⟩ := Kd.S_slice HO_6.out
 subst eo90
 go_wp2_with (first | ((with_reducible refine gate_callee (f := 14) rfl ?_); refine goesL_ (some 176) rfl rfl Tryd.func14 (by kernel_rfl) rfl #[] rfl (by (try simp only [List.map_toArray, List.map_cons, List.map_nil]); first | done | rfl | (simp only [List.length_drop, List.length_take]; rfl)) ?_; (with_reducible refine (interlocklaw12_known.calls k1  t238 _ ?side1 A89.out).mono ?_); (case side1 => exact It.TabOk.below HT.out (by repeat (first | (with_reducible first | exact HB.out | apply below_alloc | apply pw_below_drewN | apply below_drew1) | exact HB.out))); rintro e w91 ⟨rfl, hb⟩; refine ⟨_, rfl, ?_⟩; have n0_ := Aside0.mk (Kd.S_below (by (with_reducible repeat (first | apply Kd.S_alloc | apply Kd.S_drewN | apply Kd.S_drew)); exact HO_5.out) hb); have n1_ := Aside0.mk (Kd.S_below (by (with_reducible repeat (first | apply Kd.S_alloc | apply Kd.S_drewN | apply Kd.S_drew)); exact HO_6.out) hb); have n2_ := Aside0.mk (Kd.R_below (by (with_reducible repeat (first | apply Kd.R_alloc | apply Kd.R_drewN | apply Kd.R_drew)); exact HO_7.out) hb); have n3_ := Aside0.mk (Kd.R_below (by (with_reducible repeat (first | apply Kd.R_alloc | apply Kd.R_drewN | apply Kd.R_drew)); exact HO_8.out) hb); have n4_ := Aside0.mk (Kd.S_below (by (with_reducible repeat (first | apply Kd.S_alloc | apply Kd.S_drewN | apply Kd.S_drew)); exact HO_9.out) hb); have n5_ := Aside0.mk (below_step (by repeat (first | (with_reducible first | exact HB.out | apply below_alloc | apply pw_below_drewN | apply below_drew1) | exact HB.out)) hb); clear HO_5; clear HO_6; clear HO_7; clear HO_8; clear HO_9; clear HB; have HO_5 := n0_; have HO_6 := n1_; have HO_7 := n2_; have HO_8 := n3_; have HO_9 := n4_; have HB := n5_; clear n0_ n1_ n2_ n3_ n4_ n5_; (try clear hb); (try clear hb2); (try clear hk); (try clear hi)))
 go_ret
 exact ⟨by first | rfl | (simp [errW_none, errW_some] <;> rfl) | (simp [*, errW_none, errW_some] <;> rfl), by repeat (first | (with_reducible first | exact HB.out | apply below_alloc | apply pw_below_drewN | apply below_drew1) | exact HB.out)⟩
 }
 )
 )
end Go.Proofs.YtbnkeddnibjncaaDoor.P
