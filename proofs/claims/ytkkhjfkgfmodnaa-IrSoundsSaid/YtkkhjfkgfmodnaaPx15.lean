-- written by this project's xprint.py (a turn of the kit's printer; its own texts among them)
import Derived.Test.YtkkhjfkgfmodnaaPx0
import Derived.Test.YtkkhjfkgfmodnaaPx2
import Derived.Test.YtkkhjfkgfmodnaaPx3
import Derived.Test.YtkkhjfkgfmodnaaPx4
import Derived.Test.YtkkhjfkgfmodnaaPx10
namespace Go.Proofs.Ytkkhjfkgfmodnaa.P
open Go.RowKit Go.Proofs.YtkkhjfkgfmodnaaW.PrintWords Go.Proofs.YtkkhjfkgfmodnaaW.PrintLast Go.Proofs.YtkkhjfkgfmodnaaW.PrintMore
attribute [local go_sem] max2_int min2_int max_two min_two max_three min_three max_four min_four   -- for this text's walks alone
attribute [local irreducible] Calls
set_option linter.unusedVariables false
set_option linter.unusedSimpArgs false

/-! ### interlocklaw02_IrSounds: function 8 -/
mutual
def interlocklaw02_IrSounds.j0 : Nat → List (List Int) → Int → Int → Int → Int → Bool → Int → Int → Int → List Int → Int → Int → List (List (S30)) → Int → Int → Int → Int → Option (Bool)
  | 0, _, _, _, _, _, _, _, _, _, _, _, _, _, _, _, _, _ => none
  | k + 1, x1, x2, x3, x4, x5, x25, x424000, x424001, x424002, x424003, x424004, x424005, x424006, x425000, x425001, x425002, x425003 => if x25 = true then ((interlocklaw02_known.f k).bind fun t426 => (some t426)) else (interlocklaw02_IrSounds.l0 k x1 x2 x3 x4 x5 0 x424000 x424001 x424002 x424003 x424004 x424005 x424006 x425000 x425001 x425002 x425003)
def interlocklaw02_IrSounds.l0 : Nat → List (List Int) → Int → Int → Int → Int → Int → Int → Int → Int → List Int → Int → Int → List (List (S30)) → Int → Int → Int → Int → Option (Bool)
  | 0, _, _, _, _, _, _, _, _, _, _, _, _, _, _, _, _, _ => none
  | k + 1, x1, x2, x3, x4, x5, x15, x424000, x424001, x424002, x424003, x424004, x424005, x424006, x425000, x425001, x425002, x425003 => if x15 < (x424006.length : Int) then (if 0 ≤ x15 then (if ((rd_L4 x424006 x15).length : Int) > 70 then (some true) else (interlocklaw02_IrSounds.l0 k x1 x2 x3 x4 x5 (wrap64 (x15 + 1)) x424000 x424001 x424002 x424003 x424004 x424005 x424006 x425000 x425001 x425002 x425003)) else (none)) else ((interlocklaw02_Make.f k x1).bind fun bt428 => ((ir_Sound.f bt428.1 bt428.2.1 bt428.2.2.1 bt428.2.2.2.1 bt428.2.2.2.2.1 bt428.2.2.2.2.2.1 bt428.2.2.2.2.2.2).bind fun t440 => (if t440 = 0 then ((ir_Sound.f x424000 x424001 x424002 x424003 x424004 x424005 x424006).bind fun t441 => ((interlockref02_Sound.f k x424000 x424001 x424002 x424003 x424004 x424005 x424006).bind fun t442 => (interlocklaw02_IrSounds.j2 k x2 x3 x4 x5 ((wrap64 (t441)) != t442) x425000 x425001 x425002 x425003 bt428.1 bt428.2.1 bt428.2.2.1 bt428.2.2.2.1 bt428.2.2.2.2.1 bt428.2.2.2.2.2.1 bt428.2.2.2.2.2.2))) else (interlocklaw02_IrSounds.j2 k x2 x3 x4 x5 true x425000 x425001 x425002 x425003 bt428.1 bt428.2.1 bt428.2.2.1 bt428.2.2.2.1 bt428.2.2.2.2.1 bt428.2.2.2.2.2.1 bt428.2.2.2.2.2.2))))
def interlocklaw02_IrSounds.j2 : Nat → Int → Int → Int → Int → Bool → Int → Int → Int → Int → Int → Int → Int → List Int → Int → Int → List (List (S30)) → Option (Bool)
  | 0, _, _, _, _, _, _, _, _, _, _, _, _, _, _, _, _ => none
  | k + 1, x2, x3, x4, x5, x53, x425000, x425001, x425002, x425003, x440000, x440001, x440002, x440003, x440004, x440005, x440006 => if x53 = true then (none) else (if (Int.tmod x2 9) = 0 then ((ir_Sound.f x5 x440001 x440002 x440003 x440004 x440005 x440006).bind fun t443 => ((interlockref02_Sound.f k x5 x440001 x440002 x440003 x440004 x440005 x440006).bind fun t444 => (some ((wrap64 (t443)) == t444)))) else (if (Int.tmod x2 9) = 1 then ((ir_Sound.f x440000 x5 x440002 x440003 x440004 x440005 x440006).bind fun t445 => ((interlockref02_Sound.f k x440000 x5 x440002 x440003 x440004 x440005 x440006).bind fun t446 => (some ((wrap64 (t445)) == t446)))) else (if (Int.tmod x2 9) = 2 then ((ir_Sound.f x440000 x440001 x5 x440003 x440004 x440005 x440006).bind fun t447 => ((interlockref02_Sound.f k x440000 x440001 x5 x440003 x440004 x440005 x440006).bind fun t448 => (some ((wrap64 (t447)) == t448)))) else (if (Int.tmod x2 9) = 3 then ((ir_Sound.f x440000 x440001 x440002 x440003 x5 x440005 x440006).bind fun t449 => ((interlockref02_Sound.f k x440000 x440001 x440002 x440003 x5 x440005 x440006).bind fun t450 => (some ((wrap64 (t449)) == t450)))) else (if (Int.tmod x2 9) = 4 then ((ir_Sound.f x440000 x440001 x440002 x440003 x440004 x5 x440006).bind fun t451 => ((interlockref02_Sound.f k x440000 x440001 x440002 x440003 x440004 x5 x440006).bind fun t452 => (some ((wrap64 (t451)) == t452)))) else (if (Int.tmod x2 9) = 5 then (if x440003.length < 17592186044416 then ((some (x440003 ++ [x5] : List Int)).bind fun y453 => ((ir_Sound.f x440000 x440001 x440002 y453 x440004 x440005 x440006).bind fun t456 => ((interlockref02_Sound.f k x440000 x440001 x440002 y453 x440004 x440005 x440006).bind fun t457 => (some ((wrap64 (t456)) == t457))))) else (none)) else (if (Int.tmod x2 9) = 6 then (if 0 ≤ (wrap64 (Int.tmod x4 70)) then (if (wrap64 (Int.tmod x4 70) : Int).toNat ≤ 8796093022208 then (if x440006.length < 5864062014805 then ((some (x440006 ++ [(List.replicate (wrap64 (Int.tmod x4 70) : Int).toNat z30)] : List (List (S30)))).bind fun y461 => ((ir_Sound.f x440000 x440001 x440002 x440003 x440004 x440005 y461).bind fun t464 => ((interlockref02_Sound.f k x440000 x440001 x440002 x440003 x440004 x440005 y461).bind fun t465 => (some ((wrap64 (t464)) == t465))))) else (none)) else (none)) else (none)) else (if (x440006.length : Int) = 0 then (none) else (if 0 ≤ (Int.tmod (wrap64 (x3)) (x440006.length : Int)) then (if (Int.tmod (wrap64 (x3)) (x440006.length : Int)) < (x440006.length : Int) then (if ((rd_L4 x440006 (Int.tmod (wrap64 (x3)) (x440006.length : Int))).length : Int) > 0 then (if ((rd_L4 x440006 (Int.tmod (wrap64 (x3)) (x440006.length : Int))).length : Int) = 0 then (none) else (if 0 ≤ (Int.tmod (wrap64 (x4)) ((rd_L4 x440006 (Int.tmod (wrap64 (x3)) (x440006.length : Int))).length : Int)) then (if (Int.tmod (wrap64 (x4)) ((rd_L4 x440006 (Int.tmod (wrap64 (x3)) (x440006.length : Int))).length : Int)) < ((rd_L4 x440006 (Int.tmod (wrap64 (x3)) (x440006.length : Int))).length : Int) then ((some (x440006.set ((Int.tmod (wrap64 (x3)) (x440006.length : Int)) : Int).toNat ((rd_L4 x440006 (Int.tmod (wrap64 (x3)) (x440006.length : Int))).set ((Int.tmod (wrap64 (x4)) ((rd_L4 x440006 (Int.tmod (wrap64 (x3)) (x440006.length : Int))).length : Int)) : Int).toNat (⟨x425000, x425001, x425002, x425003⟩ : S30)) : List (List (S30)))).bind fun y471 => ((ir_Sound.f x440000 x440001 x440002 x440003 x440004 x440005 y471).bind fun t472 => ((interlockref02_Sound.f k x440000 x440001 x440002 x440003 x440004 x440005 y471).bind fun t473 => (some ((wrap64 (t472)) == t473))))) else (none)) else (none))) else ((ir_Sound.f x440000 x440001 x440002 x440003 x440004 x440005 x440006).bind fun t474 => ((interlockref02_Sound.f k x440000 x440001 x440002 x440003 x440004 x440005 x440006).bind fun t475 => (some ((wrap64 (t474)) == t475))))) else (none)) else (none))))))))))
end
def interlocklaw02_IrSounds.f (k : Nat) (a0_0 : Int) (a0_1 : Int) (a0_2 : Int) (l0_3 : List Int) (a0_4 : Int) (a0_5 : Int) (l0_6 : List (List (S30))) (l1 : List (List Int)) (a2 : Int) (a3 : Int) (a4 : Int) (a5 : Int) (a6_0 : Int) (a6_1 : Int) (a6_2 : Int) (a6_3 : Int) : Option (Bool) := if (l0_6.length : Int) > 10 then (interlocklaw02_IrSounds.j0 k l1 a2 a3 a4 a5 true a0_0 a0_1 a0_2 l0_3 a0_4 a0_5 l0_6 a6_0 a6_1 a6_2 a6_3) else ((interlocklaw02_known.f k).bind fun t425 => (interlocklaw02_IrSounds.j0 k l1 a2 a3 a4 a5 (!t425) a0_0 a0_1 a0_2 l0_3 a0_4 a0_5 l0_6 a6_0 a6_1 a6_2 a6_3))
theorem interlocklaw02_IrSounds.mono_l : ∀ k, (∀ y0 y1 y2 y3 y4 y5 y6 y7 y8 y9 y10 y11 y12 y13 y14 y15 y16, LeO (interlocklaw02_IrSounds.j0 k y0 y1 y2 y3 y4 y5 y6 y7 y8 y9 y10 y11 y12 y13 y14 y15 y16) (interlocklaw02_IrSounds.j0 (k + 1) y0 y1 y2 y3 y4 y5 y6 y7 y8 y9 y10 y11 y12 y13 y14 y15 y16)) ∧ (∀ y0 y1 y2 y3 y4 y5 y6 y7 y8 y9 y10 y11 y12 y13 y14 y15 y16, LeO (interlocklaw02_IrSounds.l0 k y0 y1 y2 y3 y4 y5 y6 y7 y8 y9 y10 y11 y12 y13 y14 y15 y16) (interlocklaw02_IrSounds.l0 (k + 1) y0 y1 y2 y3 y4 y5 y6 y7 y8 y9 y10 y11 y12 y13 y14 y15 y16)) ∧ (∀ y0 y1 y2 y3 y4 y5 y6 y7 y8 y9 y10 y11 y12 y13 y14 y15, LeO (interlocklaw02_IrSounds.j2 k y0 y1 y2 y3 y4 y5 y6 y7 y8 y9 y10 y11 y12 y13 y14 y15) (interlocklaw02_IrSounds.j2 (k + 1) y0 y1 y2 y3 y4 y5 y6 y7 y8 y9 y10 y11 y12 y13 y14 y15))
  | 0 => ⟨fun _ _ _ _ _ _ _ _ _ _ _ _ _ _ _ _ _ r h => by simp [interlocklaw02_IrSounds.j0] at h, fun _ _ _ _ _ _ _ _ _ _ _ _ _ _ _ _ _ r h => by simp [interlocklaw02_IrSounds.l0] at h, fun _ _ _ _ _ _ _ _ _ _ _ _ _ _ _ _ r h => by simp [interlocklaw02_IrSounds.j2] at h⟩
  | k + 1 => by
    obtain ⟨ih0, ih1, ih2⟩ := interlocklaw02_IrSounds.mono_l k
    refine ⟨?_, ?_, ?_⟩
    · intro y0 y1 y2 y3 y4 y5 y6 y7 y8 y9 y10 y11 y12 y13 y14 y15 y16
      unfold interlocklaw02_IrSounds.j0
      repeat' first
      | (with_reducible exact ih0 _ _ _ _ _ _ _ _ _ _ _ _ _ _ _ _ _)
      | (with_reducible exact ih1 _ _ _ _ _ _ _ _ _ _ _ _ _ _ _ _ _)
      | (with_reducible exact ih2 _ _ _ _ _ _ _ _ _ _ _ _ _ _ _ _)
      | (with_reducible exact interlocklaw02_Make.mono _ _)
      | (with_reducible exact interlocklaw02_known.mono _)
      | (with_reducible exact interlockref02_Sound.mono _ _ _ _ _ _ _ _)
      | (with_reducible exact LeO.refl _)
      | (with_reducible exact LeO.none _)
      | (with_reducible refine LeO.ite ?_ ?_)
      | (with_reducible refine LeO.bind ?_ (fun _ => ?_))
      | exact ih0 _ _ _ _ _ _ _ _ _ _ _ _ _ _ _ _ _
      | exact ih1 _ _ _ _ _ _ _ _ _ _ _ _ _ _ _ _ _
      | exact ih2 _ _ _ _ _ _ _ _ _ _ _ _ _ _ _ _
      | exact interlocklaw02_Make.mono _ _
      | exact interlocklaw02_known.mono _
      | exact interlockref02_Sound.mono _ _ _ _ _ _ _ _
      | exact LeO.none _
      | refine LeO.ite ?_ ?_
      | refine LeO.bind ?_ (fun _ => ?_)
    · intro y0 y1 y2 y3 y4 y5 y6 y7 y8 y9 y10 y11 y12 y13 y14 y15 y16
      unfold interlocklaw02_IrSounds.l0
      repeat' first
      | (with_reducible exact ih0 _ _ _ _ _ _ _ _ _ _ _ _ _ _ _ _ _)
      | (with_reducible exact ih1 _ _ _ _ _ _ _ _ _ _ _ _ _ _ _ _ _)
      | (with_reducible exact ih2 _ _ _ _ _ _ _ _ _ _ _ _ _ _ _ _)
      | (with_reducible exact interlocklaw02_Make.mono _ _)
      | (with_reducible exact interlocklaw02_known.mono _)
      | (with_reducible exact interlockref02_Sound.mono _ _ _ _ _ _ _ _)
      | (with_reducible exact LeO.refl _)
      | (with_reducible exact LeO.none _)
      | (with_reducible refine LeO.ite ?_ ?_)
      | (with_reducible refine LeO.bind ?_ (fun _ => ?_))
      | exact ih0 _ _ _ _ _ _ _ _ _ _ _ _ _ _ _ _ _
      | exact ih1 _ _ _ _ _ _ _ _ _ _ _ _ _ _ _ _ _
      | exact ih2 _ _ _ _ _ _ _ _ _ _ _ _ _ _ _ _
      | exact interlocklaw02_Make.mono _ _
      | exact interlocklaw02_known.mono _
      | exact interlockref02_Sound.mono _ _ _ _ _ _ _ _
      | exact LeO.none _
      | refine LeO.ite ?_ ?_
      | refine LeO.bind ?_ (fun _ => ?_)
    · intro y0 y1 y2 y3 y4 y5 y6 y7 y8 y9 y10 y11 y12 y13 y14 y15
      unfold interlocklaw02_IrSounds.j2
      repeat' first
      | (with_reducible exact ih0 _ _ _ _ _ _ _ _ _ _ _ _ _ _ _ _ _)
      | (with_reducible exact ih1 _ _ _ _ _ _ _ _ _ _ _ _ _ _ _ _ _)
      | (with_reducible exact ih2 _ _ _ _ _ _ _ _ _ _ _ _ _ _ _ _)
      | (with_reducible exact interlocklaw02_Make.mono _ _)
      | (with_reducible exact interlocklaw02_known.mono _)
      | (with_reducible exact interlockref02_Sound.mono _ _ _ _ _ _ _ _)
      | (with_reducible exact LeO.refl _)
      | (with_reducible exact LeO.none _)
      | (with_reducible refine LeO.ite ?_ ?_)
      | (with_reducible refine LeO.bind ?_ (fun _ => ?_))
      | exact ih0 _ _ _ _ _ _ _ _ _ _ _ _ _ _ _ _ _
      | exact ih1 _ _ _ _ _ _ _ _ _ _ _ _ _ _ _ _ _
      | exact ih2 _ _ _ _ _ _ _ _ _ _ _ _ _ _ _ _
      | exact interlocklaw02_Make.mono _ _
      | exact interlocklaw02_known.mono _
      | exact interlockref02_Sound.mono _ _ _ _ _ _ _ _
      | exact LeO.none _
      | refine LeO.ite ?_ ?_
      | refine LeO.bind ?_ (fun _ => ?_)
theorem interlocklaw02_IrSounds.mono : ∀ a0 a1 a2 a3 a4 a5 a6 a7 a8 a9 a10 a11 a12 a13 a14 a15 k, LeO (interlocklaw02_IrSounds.f k a0 a1 a2 a3 a4 a5 a6 a7 a8 a9 a10 a11 a12 a13 a14 a15) (interlocklaw02_IrSounds.f (k + 1) a0 a1 a2 a3 a4 a5 a6 a7 a8 a9 a10 a11 a12 a13 a14 a15) := by
  intro a0 a1 a2 a3 a4 a5 a6 a7 a8 a9 a10 a11 a12 a13 a14 a15 k
  obtain ⟨ih0, ih1, ih2⟩ := interlocklaw02_IrSounds.mono_l k
  unfold interlocklaw02_IrSounds.f
  repeat' first
      | (with_reducible exact ih0 _ _ _ _ _ _ _ _ _ _ _ _ _ _ _ _ _)
      | (with_reducible exact ih1 _ _ _ _ _ _ _ _ _ _ _ _ _ _ _ _ _)
      | (with_reducible exact ih2 _ _ _ _ _ _ _ _ _ _ _ _ _ _ _ _)
      | (with_reducible exact interlocklaw02_Make.mono _ _)
      | (with_reducible exact interlocklaw02_known.mono _)
      | (with_reducible exact interlockref02_Sound.mono _ _ _ _ _ _ _ _)
      | (with_reducible exact LeO.refl _)
      | (with_reducible exact LeO.none _)
      | (with_reducible refine LeO.ite ?_ ?_)
      | (with_reducible refine LeO.bind ?_ (fun _ => ?_))
      | exact ih0 _ _ _ _ _ _ _ _ _ _ _ _ _ _ _ _ _
      | exact ih1 _ _ _ _ _ _ _ _ _ _ _ _ _ _ _ _ _
      | exact ih2 _ _ _ _ _ _ _ _ _ _ _ _ _ _ _ _
      | exact interlocklaw02_Make.mono _ _
      | exact interlocklaw02_known.mono _
      | exact interlockref02_Sound.mono _ _ _ _ _ _ _ _
      | exact LeO.none _
      | refine LeO.ite ?_ ?_
      | refine LeO.bind ?_ (fun _ => ?_)
def interlocklaw02_IrSounds.T9 : Bool × List (List Nat × List Nat) := (true, [([], []), ([0], [0]), ([1], [1]), ([2, 1], [2]), ([3], [3]), ([4, 3, 3], [3, 4]), ([5, 3], [3, 5]), ([3], [3]), ([7, 5, 3], [3, 7]), ([6, 8, 3], [3, 6, 8]), ([3, 9], [3, 9])])
def interlocklaw02_IrSounds.B9 : List Nat := [0, 1, 3, 7, 15, 31, 63, 15, 191, 511, 1023]
theorem interlocklaw02_IrSounds.tab9 : rtab .any (opsOf Try.f8 9) = interlocklaw02_IrSounds.T9 := by kernel_rfl
theorem interlocklaw02_IrSounds.bits9 : waitsOk interlocklaw02_IrSounds.T9.2 interlocklaw02_IrSounds.B9 = true := by kernel_rfl
def interlocklaw02_IrSounds.T14 : Bool × List (List Nat × List Nat) := (true, [([], []), ([0], [0]), ([], []), ([1, 2], [1, 2]), ([3], [3]), ([], []), ([5], [5]), ([], []), ([7], [7]), ([], []), ([8, 9], [8, 9]), ([10], [10]), ([11], [11]), ([6, 12], [6, 12]), ([], []), ([4, 13, 0, 1, 2, 3, 4, 5, 6, 7, 8, 9, 10, 11, 12, 13, 14], [4, 13]), ([15, 14, 0, 1, 2, 3, 4, 5, 6, 7, 8, 9, 10, 11, 12, 13, 14], [14, 15])])
def interlocklaw02_IrSounds.B14 : List Nat := [0, 1, 0, 7, 15, 0, 32, 0, 128, 0, 896, 1920, 3968, 8160, 0, 32767, 65535]
theorem interlocklaw02_IrSounds.tab14 : rtab .any (opsOf Try.f8 14) = interlocklaw02_IrSounds.T14 := by kernel_rfl
theorem interlocklaw02_IrSounds.bits14 : waitsOk interlocklaw02_IrSounds.T14.2 interlocklaw02_IrSounds.B14 = true := by kernel_rfl
def interlocklaw02_IrSounds.T28 : Bool × List (List Nat × List Nat) := (true, [([], []), ([0], [0]), ([], []), ([2], [2]), ([3], [3]), ([4, 4], [4]), ([5], [5]), ([1, 6], [1, 6]), ([0, 1, 2, 3, 4, 5, 6, 7], []), ([8, 7, 7, 0, 1, 2, 3, 4, 5, 6, 7], [7, 8])])
def interlocklaw02_IrSounds.B28 : List Nat := [0, 1, 0, 4, 12, 28, 60, 127, 255, 511]
theorem interlocklaw02_IrSounds.tab28 : rtab .any (opsOf Try.f8 28) = interlocklaw02_IrSounds.T28 := by kernel_rfl
theorem interlocklaw02_IrSounds.bits28 : waitsOk interlocklaw02_IrSounds.T28.2 interlocklaw02_IrSounds.B28 = true := by kernel_rfl
set_option maxHeartbeats 8000000 in
set_option maxRecDepth 100000 in
theorem interlocklaw02_IrSounds.calls (k : Nat) (a0_0 : Int) (a0_1 : Int) (a0_2 : Int) (A0_3 : Option Addr) (c0_3 : Nat) (l0_3 : List Int) (a0_4 : Int) (a0_5 : Int) (A0_6 : Option Addr) (c0_6 : Nat) (l0_6 : List (List (S30))) (A1 : Option Addr) (c1 : Nat) (l1 : List (List Int)) (a2 : Int) (a3 : Int) (a4 : Int) (a5 : Int) (a6_0 : Int) (a6_1 : Int) (a6_2 : Int) (a6_3 : Int) (r : Bool) (w : World) (hr0_3 : Kd.C (Kd.int .i64) w A0_3 l0_3.length l0_3) (hc0_3 : l0_3.length ≤ c0_3) (hr0_6 : Kd.C (Kd.slice 30 k30) w A0_6 l0_6.length l0_6) (hc0_6 : l0_6.length ≤ c0_6) (hr1 : Kd.C (Kd.slice 5 (Kd.int .u8)) w A1 l1.length l1) (hc1 : l1.length ≤ c1) (h : interlocklaw02_IrSounds.f k a0_0 a0_1 a0_2 l0_3 a0_4 a0_5 l0_6 l1 a2 a3 a4 a5 a6_0 a6_1 a6_2 a6_3 = some r) :
    Calls Try.prog 8 #[.agg #[.int .i64 a0_0, .int .i64 a0_1, .int .i64 a0_2, .slice A0_3 l0_3.length c0_3, .int .i64 a0_4, .int .i64 a0_5, .slice A0_6 l0_6.length c0_6], .slice A1 l1.length c1, .int .u8 a2, .int .u8 a3, .int .u8 a4, .int .i64 a5, .agg #[.int .u8 a6_0, .int .i64 a6_1, .int .i64 a6_2, .int .i64 a6_3]] w fun e w' => e = .returned (.bool r) ∧ Below w.heap.size w w' := by
 have hu26 := Try.underlying26
 have hu30 := Try.underlying30
 have HR0_3 := Aside0.mk hr0_3
 have HC0_3 := Aside0.mk hc0_3
 clear hr0_3 hc0_3
 have HR0_6 := Aside0.mk hr0_6
 have HC0_6 := Aside0.mk hc0_6
 clear hr0_6 hc0_6
 have HR1 := Aside0.mk hr1
 have HC1 := Aside0.mk hc1
 clear hr1 hc1
 have HB := Aside0.mk (Below.refl w.heap.size w)
 have H : (if (l0_6.length : Int) > 10 then (interlocklaw02_IrSounds.j0 k l1 a2 a3 a4 a5 true a0_0 a0_1 a0_2 l0_3 a0_4 a0_5 l0_6 a6_0 a6_1 a6_2 a6_3) else ((interlocklaw02_known.f k).bind fun t425 => (interlocklaw02_IrSounds.j0 k l1 a2 a3 a4 a5 (!t425) a0_0 a0_1 a0_2 l0_3 a0_4 a0_5 l0_6 a6_0 a6_1 a6_2 a6_3))) = some r := h
 clear h
 have HC8 := Aside0.mk H
 clear H
 go_enter Try.func8, Try.ntmps8
 go_upto_region 1 with (first | ((with_reducible refine gate_dst (N := 7) rfl ?_); refine box_event ?hg (N := 7) ?hd (cs := #[.int .i64 a0_0, .int .i64 a0_1, .int .i64 a0_2, .slice A0_3 l0_3.length c0_3, .int .i64 a0_4, .int .i64 a0_5, .slice A0_6 l0_6.length c0_6]) (t := 26) ?hr ?_; (case hd => rfl); (case hg => rfl); (case hr => first | (go_simp; done) | (go_simp; rfl)); intro gb423 hg w9 hbox hb; have n0_ := Aside0.mk (below_step (by repeat (first | (with_reducible first | exact HB.out | apply below_alloc | apply pw_below_drewN | apply below_drew1) | exact HB.out)) hb); have n1_ := Aside0.mk (hbox); have n2_ := Aside0.mk ((by rw [hg]; exact (below_size (by repeat (first | (with_reducible first | exact HB.out | apply below_alloc | apply pw_below_drewN | apply below_drew1) | exact HB.out))) : w.heap.size ≤ gb423)); have n3_ := Aside0.mk ((by rw [hg]; exact (below_size (by repeat (first | (with_reducible first | exact HB.out | apply below_alloc | apply pw_below_drewN | apply below_drew1) | exact HB.out))) : w.heap.size ≤ gb423)); clear HB; have HB := n0_; have BK423 := n1_; have GW423 := n2_; have GE423 := n3_; clear n0_ n1_ n2_ n3_; clear hb hbox hg) | ((with_reducible refine gate_dst (N := 13) rfl ?_); refine box_event ?hg (N := 13) ?hd (cs := #[.int .u8 a6_0, .int .i64 a6_1, .int .i64 a6_2, .int .i64 a6_3]) (t := 30) ?hr ?_; (case hd => rfl); (case hg => rfl); (case hr => first | (go_simp; done) | (go_simp; rfl)); intro gb424 hg w10 hbox hb; have n0_ := Aside0.mk (blk_below (g := gb423) (o := .cells #[.int .i64 a0_0, .int .i64 a0_1, .int .i64 a0_2, .slice A0_3 l0_3.length c0_3, .int .i64 a0_4, .int .i64 a0_5, .slice A0_6 l0_6.length c0_6] 26 (0, 0)) (by (with_reducible repeat (first | refine blk_drewN ?_ _ | refine blk_drew ?_ | refine blk_alloc ?_ _)); exact BK423.out) hb); have n1_ := Aside0.mk (below_step (by repeat (first | (with_reducible first | exact HB.out | apply below_alloc | apply pw_below_drewN | apply below_drew1 | refine below_set ?_ GE423.out) | exact HB.out)) hb); have n2_ := Aside0.mk (hbox); have n3_ := Aside0.mk ((by rw [hg]; exact (below_size (by repeat (first | (with_reducible first | exact HB.out | apply below_alloc | apply pw_below_drewN | apply below_drew1 | refine below_set ?_ GE423.out) | exact HB.out))) : w.heap.size ≤ gb424)); have n4_ := Aside0.mk ((by rw [hg]; exact (below_size (by repeat (first | (with_reducible first | exact HB.out | apply below_alloc | apply pw_below_drewN | apply below_drew1 | refine below_set ?_ GE423.out) | exact HB.out))) : w.heap.size ≤ gb424)); have n5_ := Aside0.mk ((by rw [hg]; exact Nat.ne_of_lt (blk_lt (g := gb423) (o := .cells #[.int .i64 a0_0, .int .i64 a0_1, .int .i64 a0_2, .slice A0_3 l0_3.length c0_3, .int .i64 a0_4, .int .i64 a0_5, .slice A0_6 l0_6.length c0_6] 26 (0, 0)) (by (with_reducible repeat (first | refine blk_drewN ?_ _ | refine blk_drew ?_ | refine blk_alloc ?_ _)); exact BK423.out)) : gb423 ≠ gb424)); have n6_ := Aside0.mk ((by rw [hg]; exact Nat.ne_of_gt (blk_lt (g := gb423) (o := .cells #[.int .i64 a0_0, .int .i64 a0_1, .int .i64 a0_2, .slice A0_3 l0_3.length c0_3, .int .i64 a0_4, .int .i64 a0_5, .slice A0_6 l0_6.length c0_6] 26 (0, 0)) (by (with_reducible repeat (first | refine blk_drewN ?_ _ | refine blk_drew ?_ | refine blk_alloc ?_ _)); exact BK423.out)) : gb424 ≠ gb423)); clear BK423; clear HB; have BK423 := n0_; have HB := n1_; have BK424 := n2_; have GW424 := n3_; have GE424 := n4_; have NB423_424 := n5_; have NB424_423 := n6_; clear n0_ n1_ n2_ n3_ n4_ n5_ n6_; clear hb hbox hg))
 (try simp only [Act.put, List.setIfInBounds_toArray, List.set_cons_zero, List.set_cons_succ])
 go_cut [25] (fun v25 wc => ∃ (kq : Nat) (x25_7 : Bool), v25 = .bool x25_7 ∧ Aside0 (interlocklaw02_IrSounds.j0 kq l1 a2 a3 a4 a5 x25_7 a0_0 a0_1 a0_2 l0_3 a0_4 a0_5 l0_6 a6_0 a6_1 a6_2 a6_3 = some r) ∧ Aside0 (kq ≤ k) ∧ Aside0 (wc.heap[gb423]? = some (.cells #[.int .i64 a0_0, .int .i64 a0_1, .int .i64 a0_2, (.slice A0_3 l0_3.length c0_3), .int .i64 a0_4, .int .i64 a0_5, (.slice A0_6 l0_6.length c0_6)] 26 (0, 0))) ∧ Aside0 (wc.heap[gb424]? = some (.cells #[.int .u8 a6_0, .int .i64 a6_1, .int .i64 a6_2, .int .i64 a6_3] 30 (0, 0))) ∧ Aside0 (Below w.heap.size w wc))
 case first => (
 have H := HC8.out
 clear HC8
 by_cases c11 : (l0_6.length : Int) > 10
 {
 rw [if_pos c11] at H
 have c11b0 : decide (10 < (l0_6.length : Int)) = true := decide_eq_true c11
 have c11b1 : decide (10 < l0_6.length) = true := decide_eq_true (by omega)
 clear c11
 (first | rw [c11b0] | (simp only [i64_w, i32_w]; rw [c11b0]) | skip)
 have H' := Aside0.mk H
 clear H
 have hnb12 := NB423_424.out
 have hnc12 := NB424_423.out
 have hcz13_0 : w10.cell? ⟨gb423, 0, none⟩ = some (.int .i64 a0_0) := (blk_cell BK423.out 0).trans rfl
 have hcz13_1 : w10.cell? ⟨gb423, 1, none⟩ = some (.int .i64 a0_1) := (blk_cell BK423.out 1).trans rfl
 have hcz13_2 : w10.cell? ⟨gb423, 2, none⟩ = some (.int .i64 a0_2) := (blk_cell BK423.out 2).trans rfl
 have hcz13_3 : w10.cell? ⟨gb423, 3, none⟩ = some (.slice A0_3 l0_3.length c0_3) := (blk_cell BK423.out 3).trans rfl
 have hcz13_4 : w10.cell? ⟨gb423, 4, none⟩ = some (.int .i64 a0_4) := (blk_cell BK423.out 4).trans rfl
 have hcz13_5 : w10.cell? ⟨gb423, 5, none⟩ = some (.int .i64 a0_5) := (blk_cell BK423.out 5).trans rfl
 have hcz13_6 : w10.cell? ⟨gb423, 6, none⟩ = some (.slice A0_6 l0_6.length c0_6) := (blk_cell BK423.out 6).trans rfl
 have hfz13_0 := blk_frozen BK423.out 0
 have hfz13_1 := blk_frozen BK423.out 1
 have hfz13_2 := blk_frozen BK423.out 2
 have hfz13_3 := blk_frozen BK423.out 3
 have hfz13_4 := blk_frozen BK423.out 4
 have hfz13_5 := blk_frozen BK423.out 5
 have hfz13_6 := blk_frozen BK423.out 6
 go_wp2
 go_meet
 case rel => exact ⟨_, (true), (by first | rfl | (simp; done) | (simp [*]; done)), H', ⟨by first | omega | exact Nat.le_refl _⟩, ⟨by (with_reducible repeat (first | refine blk_drewN ?_ _ | refine blk_drew ?_ | refine blk_alloc ?_ _)); exact BK423.out⟩, ⟨by (with_reducible repeat (first | refine blk_drewN ?_ _ | refine blk_drew ?_ | refine blk_alloc ?_ _)); exact BK424.out⟩, ⟨by repeat (first | (with_reducible first | exact HB.out | apply below_alloc | apply pw_below_drewN | apply below_drew1 | refine below_set ?_ GE423.out | refine below_set ?_ GE424.out) | exact HB.out)⟩⟩
 }
 {
 rw [if_neg c11] at H
 have c11b0 : decide (10 < (l0_6.length : Int)) = false := decide_eq_false c11
 have c11b1 : decide (10 < l0_6.length) = false := decide_eq_false (by omega)
 clear c11
 (first | rw [c11b0] | (simp only [i64_w, i32_w]; rw [c11b0]) | skip)
 replace H := Option.bind_eq_some_iff.mp H
 obtain ⟨t425, A140, H⟩ := H
 replace H : (interlocklaw02_IrSounds.j0 k l1 a2 a3 a4 a5 (!t425) a0_0 a0_1 a0_2 l0_3 a0_4 a0_5 l0_6 a6_0 a6_1 a6_2 a6_3) = some r := H
 have A14 := Aside0.mk A140
 clear A140
 have H' := Aside0.mk H
 clear H
 have hnb15 := NB423_424.out
 have hnc15 := NB424_423.out
 have hcz16_0 : w10.cell? ⟨gb423, 0, none⟩ = some (.int .i64 a0_0) := (blk_cell BK423.out 0).trans rfl
 have hcz16_1 : w10.cell? ⟨gb423, 1, none⟩ = some (.int .i64 a0_1) := (blk_cell BK423.out 1).trans rfl
 have hcz16_2 : w10.cell? ⟨gb423, 2, none⟩ = some (.int .i64 a0_2) := (blk_cell BK423.out 2).trans rfl
 have hcz16_3 : w10.cell? ⟨gb423, 3, none⟩ = some (.slice A0_3 l0_3.length c0_3) := (blk_cell BK423.out 3).trans rfl
 have hcz16_4 : w10.cell? ⟨gb423, 4, none⟩ = some (.int .i64 a0_4) := (blk_cell BK423.out 4).trans rfl
 have hcz16_5 : w10.cell? ⟨gb423, 5, none⟩ = some (.int .i64 a0_5) := (blk_cell BK423.out 5).trans rfl
 have hcz16_6 : w10.cell? ⟨gb423, 6, none⟩ = some (.slice A0_6 l0_6.length c0_6) := (blk_cell BK423.out 6).trans rfl
 have hfz16_0 := blk_frozen BK423.out 0
 have hfz16_1 := blk_frozen BK423.out 1
 have hfz16_2 := blk_frozen BK423.out 2
 have hfz16_3 := blk_frozen BK423.out 3
 have hfz16_4 := blk_frozen BK423.out 4
 have hfz16_5 := blk_frozen BK423.out 5
 have hfz16_6 := blk_frozen BK423.out 6
 go_wp2_with (first | (go_at_call 11; (with_reducible refine (interlocklaw02_known.calls k  t425 _ A14.out).mono ?_); rintro e w17 ⟨rfl, hb⟩; have n0_ := Aside0.mk (blk_below (g := gb423) (o := .cells #[.int .i64 a0_0, .int .i64 a0_1, .int .i64 a0_2, .slice A0_3 l0_3.length c0_3, .int .i64 a0_4, .int .i64 a0_5, .slice A0_6 l0_6.length c0_6] 26 (0, 0)) (by (with_reducible repeat (first | refine blk_drewN ?_ _ | refine blk_drew ?_ | refine blk_alloc ?_ _)); exact BK423.out) hb); have n1_ := Aside0.mk (blk_below (g := gb424) (o := .cells #[.int .u8 a6_0, .int .i64 a6_1, .int .i64 a6_2, .int .i64 a6_3] 30 (0, 0)) (by (with_reducible repeat (first | refine blk_drewN ?_ _ | refine blk_drew ?_ | refine blk_alloc ?_ _)); exact BK424.out) hb); have n2_ := Aside0.mk (below_step (by repeat (first | (with_reducible first | exact HB.out | apply below_alloc | apply pw_below_drewN | apply below_drew1 | refine below_set ?_ GE423.out | refine below_set ?_ GE424.out) | exact HB.out)) hb); clear BK423; clear BK424; clear HB; have BK423 := n0_; have BK424 := n1_; have HB := n2_; clear n0_ n1_ n2_; (try clear hb); (try clear hb2); (try clear hk); (try clear hi)))
 go_meet
 case rel => exact ⟨_, (!t425), (by first | rfl | (simp; done) | (simp [*]; done)), H', ⟨by first | omega | exact Nat.le_refl _⟩, ⟨by (with_reducible repeat (first | refine blk_drewN ?_ _ | refine blk_drew ?_ | refine blk_alloc ?_ _)); exact BK423.out⟩, ⟨by (with_reducible repeat (first | refine blk_drewN ?_ _ | refine blk_drew ?_ | refine blk_alloc ?_ _)); exact BK424.out⟩, ⟨by repeat (first | (with_reducible first | exact HB.out | apply below_alloc | apply pw_below_drewN | apply below_drew1 | refine below_set ?_ GE423.out | refine below_set ?_ GE424.out) | exact HB.out)⟩⟩
 }
 )
 case rest => (
 clear HC8
 try clear c1
 try clear p2
 try clear c8
 try clear c11
 try clear c11b0
 try clear c11b1
 try clear c12
 try clear c15
 try clear hcz13_0
 try clear hcz13_1
 try clear hcz13_2
 try clear hcz13_3
 try clear hcz13_4
 try clear hcz13_5
 try clear hcz13_6
 try clear hcz16_0
 try clear hcz16_1
 try clear hcz16_2
 try clear hcz16_3
 try clear hcz16_4
 try clear hcz16_5
 try clear hcz16_6
 try clear hfz13_0
 try clear hfz13_1
 try clear hfz13_2
 try clear hfz13_3
 try clear hfz13_4
 try clear hfz13_5
 try clear hfz13_6
 try clear hfz16_0
 try clear hfz16_1
 try clear hfz16_2
 try clear hfz16_3
 try clear hfz16_4
 try clear hfz16_5
 try clear hfz16_6
 obtain ⟨kq, x25_7, rfl, HA, HJ7, BK423, BK424, HB⟩ := hcut
 cases kq with
 | zero => exact absurd HA.out (by simp [interlocklaw02_IrSounds.j0])
 | succ kj7 => (
 have H := HA.out
 clear HA
 simp only [interlocklaw02_IrSounds.j0] at H
 by_cases c18 : x25_7 = true
 {
 subst c18
 have H1 : ((interlocklaw02_known.f kj7).bind fun t426 => (some t426)) = some r := by rw [if_pos rfl] at H; exact H
 clear H
 have H := H1
 clear H1
 replace H := Option.bind_eq_some_iff.mp H
 obtain ⟨t426, A190, H⟩ := H
 replace H : (some t426) = some r := H
 have A19 := Aside0.mk A190
 clear A190
 obtain rfl := Option.some.inj H
 go_wp2_with (first | ((with_reducible refine gate_callee (f := 11) rfl ?_); refine goesL_ (some 26) rfl rfl Try.func11 (by kernel_rfl) rfl #[] rfl (by (try simp only [List.map_toArray, List.map_cons, List.map_nil]); first | done | rfl | (simp only [List.length_drop, List.length_take]; rfl)) ?_; (with_reducible refine (interlocklaw02_known.calls kj7  t426 _ A19.out).mono ?_); rintro e w20 ⟨rfl, hb⟩; refine ⟨_, rfl, ?_⟩; have n0_ := Aside0.mk (blk_below (g := gb423) (o := .cells #[.int .i64 a0_0, .int .i64 a0_1, .int .i64 a0_2, .slice A0_3 l0_3.length c0_3, .int .i64 a0_4, .int .i64 a0_5, .slice A0_6 l0_6.length c0_6] 26 (0, 0)) (by (with_reducible repeat (first | refine blk_drewN ?_ _ | refine blk_drew ?_ | refine blk_alloc ?_ _)); exact BK423.out) hb); have n1_ := Aside0.mk (blk_below (g := gb424) (o := .cells #[.int .u8 a6_0, .int .i64 a6_1, .int .i64 a6_2, .int .i64 a6_3] 30 (0, 0)) (by (with_reducible repeat (first | refine blk_drewN ?_ _ | refine blk_drew ?_ | refine blk_alloc ?_ _)); exact BK424.out) hb); have n2_ := Aside0.mk (below_step (by repeat (first | (with_reducible first | exact HB.out | apply below_alloc | apply pw_below_drewN | apply below_drew1 | refine below_set ?_ GE423.out | refine below_set ?_ GE424.out) | exact HB.out)) hb); clear BK423; clear BK424; clear HB; have BK423 := n0_; have BK424 := n1_; have HB := n2_; clear n0_ n1_ n2_; (try clear hb); (try clear hb2); (try clear hk); (try clear hi)))
 go_ret
 exact ⟨by first | rfl | (simp [errW_none, errW_some] <;> rfl) | (simp [*, errW_none, errW_some] <;> rfl), by repeat (first | (with_reducible first | exact HB.out | apply below_alloc | apply pw_below_drewN | apply below_drew1 | refine below_set ?_ GE423.out | refine below_set ?_ GE424.out) | exact HB.out)⟩
 }
 {
 replace c18 := Bool.eq_false_iff.mpr c18
 subst c18
 have H1 : (interlocklaw02_IrSounds.l0 kj7 l1 a2 a3 a4 a5 0 a0_0 a0_1 a0_2 l0_3 a0_4 a0_5 l0_6 a6_0 a6_1 a6_2 a6_3) = some r := by rw [if_neg (show ¬ (false = true) by decide)] at H; exact H
 clear H
 have H := H1
 clear H1
 have H' := Aside0.mk H
 clear H
 go_wp2
 go_loopg [15] kj7 (fun kq v15 w' => ∃ (x15_2 : Int), v15 = .int .i64 x15_2 ∧ Aside0 (interlocklaw02_IrSounds.l0 kq l1 a2 a3 a4 a5 x15_2 a0_0 a0_1 a0_2 l0_3 a0_4 a0_5 l0_6 a6_0 a6_1 a6_2 a6_3 = some r) ∧ Aside0 (kq ≤ kj7) ∧ Aside0 (w'.heap[gb423]? = some (.cells #[.int .i64 a0_0, .int .i64 a0_1, .int .i64 a0_2, (.slice A0_3 l0_3.length c0_3), .int .i64 a0_4, .int .i64 a0_5, (.slice A0_6 l0_6.length c0_6)] 26 (0, 0))) ∧ Aside0 (w'.heap[gb424]? = some (.cells #[.int .u8 a6_0, .int .i64 a6_1, .int .i64 a6_2, .int .i64 a6_3] 30 (0, 0))) ∧ Aside0 (Below w.heap.size w w'))
 case atStart => exact ⟨(0), (by first | rfl | (simp; done) | (simp [*]; done)), H', ⟨Nat.le_refl _⟩, ⟨by (with_reducible repeat (first | refine blk_drewN ?_ _ | refine blk_drew ?_ | refine blk_alloc ?_ _)); exact BK423.out⟩, ⟨by (with_reducible repeat (first | refine blk_drewN ?_ _ | refine blk_drew ?_ | refine blk_alloc ?_ _)); exact BK424.out⟩, ⟨by repeat (first | (with_reducible first | exact HB.out | apply below_alloc | apply pw_below_drewN | apply below_drew1 | refine below_set ?_ GE423.out | refine below_set ?_ GE424.out) | exact HB.out)⟩⟩
 case round => (
 clear H'
 try clear c1
 try clear p2
 try clear c8
 try clear c11
 try clear c11b0
 try clear c11b1
 try clear c12
 try clear c15
 try clear c18
 try clear hcz13_0
 try clear hcz13_1
 try clear hcz13_2
 try clear hcz13_3
 try clear hcz13_4
 try clear hcz13_5
 try clear hcz13_6
 try clear hcz16_0
 try clear hcz16_1
 try clear hcz16_2
 try clear hcz16_3
 try clear hcz16_4
 try clear hcz16_5
 try clear hcz16_6
 try clear hfz13_0
 try clear hfz13_1
 try clear hfz13_2
 try clear hfz13_3
 try clear hfz13_4
 try clear hfz13_5
 try clear hfz13_6
 try clear hfz16_0
 try clear hfz16_1
 try clear hfz16_2
 try clear hfz16_3
 try clear hfz16_4
 try clear hfz16_5
 try clear hfz16_6
 try clear p2
 obtain ⟨x15_2, rfl, HA, HK2, BK423, BK424, HB⟩ := hrel
 cases gk with
 | zero => exact absurd HA.out (by simp [interlocklaw02_IrSounds.l0])
 | succ k2 => (
 have H := HA.out
 clear HA
 simp only [interlocklaw02_IrSounds.l0] at H
 by_cases c21 : x15_2 < (l0_6.length : Int)
 {
 rw [if_pos c21] at H
 have c21b0 : decide (x15_2 < (l0_6.length : Int)) = true := decide_eq_true c21
 clear c21
 by_cases c22 : 0 ≤ x15_2
 {
 rw [if_pos c22] at H
 have c22b0 : decide (0 ≤ x15_2) = true := decide_eq_true c22
 clear c22
 by_cases c23 : ((rd_L4 l0_6 x15_2).length : Int) > 70
 {
 rw [if_pos c23] at H
 have c23b0 : decide (70 < ((rd_L4 l0_6 x15_2).length : Int)) = true := decide_eq_true c23
 have c23b1 : decide (70 < (rd_L4 l0_6 x15_2).length) = true := decide_eq_true (by omega)
 clear c23
 obtain rfl := Option.some.inj H
 have hnb24 := NB423_424.out
 have hnc24 := NB424_423.out
 have hcz25_0 : wr.cell? ⟨gb423, 0, none⟩ = some (.int .i64 a0_0) := (blk_cell BK423.out 0).trans rfl
 have hcz25_1 : wr.cell? ⟨gb423, 1, none⟩ = some (.int .i64 a0_1) := (blk_cell BK423.out 1).trans rfl
 have hcz25_2 : wr.cell? ⟨gb423, 2, none⟩ = some (.int .i64 a0_2) := (blk_cell BK423.out 2).trans rfl
 have hcz25_3 : wr.cell? ⟨gb423, 3, none⟩ = some (.slice A0_3 l0_3.length c0_3) := (blk_cell BK423.out 3).trans rfl
 have hcz25_4 : wr.cell? ⟨gb423, 4, none⟩ = some (.int .i64 a0_4) := (blk_cell BK423.out 4).trans rfl
 have hcz25_5 : wr.cell? ⟨gb423, 5, none⟩ = some (.int .i64 a0_5) := (blk_cell BK423.out 5).trans rfl
 have hcz25_6 : wr.cell? ⟨gb423, 6, none⟩ = some (.slice A0_6 l0_6.length c0_6) := (blk_cell BK423.out 6).trans rfl
 have hfz25_0 := blk_frozen BK423.out 0
 have hfz25_1 := blk_frozen BK423.out 1
 have hfz25_2 := blk_frozen BK423.out 2
 have hfz25_3 := blk_frozen BK423.out 3
 have hfz25_4 := blk_frozen BK423.out 4
 have hfz25_5 := blk_frozen BK423.out 5
 have hfz25_6 := blk_frozen BK423.out 6
 have p427 : 0 ≤ (x15_2 : Int) := of_decide_eq_true (by first | (with_reducible assumption) | assumption)
 have q427 : x15_2 < (l0_6.length : Int) := of_decide_eq_true (by first | (with_reducible assumption) | assumption)
 obtain ⟨ad427, A427_0, c427_0, e427, hx427_0, hl427_0, hi427_0⟩ := at_L4 HR0_6.out x15_2 p427 q427
 cases e427
 replace hx427_0 := (HB.out.cell (World.block_lt_of_cell? w _ hx427_0)).trans hx427_0
 have HR427_0 := Aside0.mk hi427_0
 have HC427_0 := Aside0.mk hl427_0
 clear hi427_0 hl427_0
 replace p427 := eq_true p427
 replace q427 := eq_true q427
 go_wp2
 go_ret
 exact ⟨by first | rfl | (simp [errW_none, errW_some] <;> rfl) | (simp [*, errW_none, errW_some] <;> rfl), by repeat (first | (with_reducible first | exact HB.out | apply below_alloc | apply pw_below_drewN | apply below_drew1 | refine below_set ?_ GE423.out | refine below_set ?_ GE424.out) | exact HB.out)⟩
 }
 {
 rw [if_neg c23] at H
 have c23b0 : decide (70 < ((rd_L4 l0_6 x15_2).length : Int)) = false := decide_eq_false c23
 have c23b1 : decide (70 < (rd_L4 l0_6 x15_2).length) = false := decide_eq_false (by omega)
 clear c23
 have H' := Aside0.mk H
 clear H
 have hnb26 := NB423_424.out
 have hnc26 := NB424_423.out
 have hcz27_0 : wr.cell? ⟨gb423, 0, none⟩ = some (.int .i64 a0_0) := (blk_cell BK423.out 0).trans rfl
 have hcz27_1 : wr.cell? ⟨gb423, 1, none⟩ = some (.int .i64 a0_1) := (blk_cell BK423.out 1).trans rfl
 have hcz27_2 : wr.cell? ⟨gb423, 2, none⟩ = some (.int .i64 a0_2) := (blk_cell BK423.out 2).trans rfl
 have hcz27_3 : wr.cell? ⟨gb423, 3, none⟩ = some (.slice A0_3 l0_3.length c0_3) := (blk_cell BK423.out 3).trans rfl
 have hcz27_4 : wr.cell? ⟨gb423, 4, none⟩ = some (.int .i64 a0_4) := (blk_cell BK423.out 4).trans rfl
 have hcz27_5 : wr.cell? ⟨gb423, 5, none⟩ = some (.int .i64 a0_5) := (blk_cell BK423.out 5).trans rfl
 have hcz27_6 : wr.cell? ⟨gb423, 6, none⟩ = some (.slice A0_6 l0_6.length c0_6) := (blk_cell BK423.out 6).trans rfl
 have hfz27_0 := blk_frozen BK423.out 0
 have hfz27_1 := blk_frozen BK423.out 1
 have hfz27_2 := blk_frozen BK423.out 2
 have hfz27_3 := blk_frozen BK423.out 3
 have hfz27_4 := blk_frozen BK423.out 4
 have hfz27_5 := blk_frozen BK423.out 5
 have hfz27_6 := blk_frozen BK423.out 6
 have p427 : 0 ≤ (x15_2 : Int) := of_decide_eq_true (by first | (with_reducible assumption) | assumption)
 have q427 : x15_2 < (l0_6.length : Int) := of_decide_eq_true (by first | (with_reducible assumption) | assumption)
 obtain ⟨ad427, A427_0, c427_0, e427, hx427_0, hl427_0, hi427_0⟩ := at_L4 HR0_6.out x15_2 p427 q427
 cases e427
 replace hx427_0 := (HB.out.cell (World.block_lt_of_cell? w _ hx427_0)).trans hx427_0
 have HR427_0 := Aside0.mk hi427_0
 have HC427_0 := Aside0.mk hl427_0
 clear hi427_0 hl427_0
 replace p427 := eq_true p427
 replace q427 := eq_true q427
 go_wp2
 go_roundg k2
 case measure => have := HJ7.out; have := HK2.out; omega
 case rel => exact ⟨(wrap64 (x15_2 + 1)), (by first | rfl | (simp; done) | (simp [*]; done)), H', ⟨by have := HJ7.out; have := HK2.out; omega⟩, ⟨by (with_reducible repeat (first | refine blk_drewN ?_ _ | refine blk_drew ?_ | refine blk_alloc ?_ _)); exact BK423.out⟩, ⟨by (with_reducible repeat (first | refine blk_drewN ?_ _ | refine blk_drew ?_ | refine blk_alloc ?_ _)); exact BK424.out⟩, ⟨by repeat (first | (with_reducible first | exact HB.out | apply below_alloc | apply pw_below_drewN | apply below_drew1 | refine below_set ?_ GE423.out | refine below_set ?_ GE424.out) | exact HB.out)⟩⟩
 }
 }
 {
 rw [if_neg c22] at H
 exact absurd H (by simp)
 }
 }
 {
 rw [if_neg c21] at H
 have c21b0 : decide (x15_2 < (l0_6.length : Int)) = false := decide_eq_false c21
 clear c21
 replace H := Option.bind_eq_some_iff.mp H
 obtain ⟨⟨t428, t429, t430, t431, t434, t435, t436⟩, A280, H⟩ := H
 replace H : ((ir_Sound.f t428 t429 t430 t431 t434 t435 t436).bind fun t440 => (if t440 = 0 then ((ir_Sound.f a0_0 a0_1 a0_2 l0_3 a0_4 a0_5 l0_6).bind fun t441 => ((interlockref02_Sound.f k2 a0_0 a0_1 a0_2 l0_3 a0_4 a0_5 l0_6).bind fun t442 => (interlocklaw02_IrSounds.j2 k2 a2 a3 a4 a5 ((wrap64 (t441)) != t442) a6_0 a6_1 a6_2 a6_3 t428 t429 t430 t431 t434 t435 t436))) else (interlocklaw02_IrSounds.j2 k2 a2 a3 a4 a5 true a6_0 a6_1 a6_2 a6_3 t428 t429 t430 t431 t434 t435 t436))) = some r := H
 have A28 := Aside0.mk A280
 clear A280
 have HC29 := Aside0.mk H
 clear H
 have hnb30 := NB423_424.out
 have hnc30 := NB424_423.out
 have hcz31_0 : wr.cell? ⟨gb423, 0, none⟩ = some (.int .i64 a0_0) := (blk_cell BK423.out 0).trans rfl
 have hcz31_1 : wr.cell? ⟨gb423, 1, none⟩ = some (.int .i64 a0_1) := (blk_cell BK423.out 1).trans rfl
 have hcz31_2 : wr.cell? ⟨gb423, 2, none⟩ = some (.int .i64 a0_2) := (blk_cell BK423.out 2).trans rfl
 have hcz31_3 : wr.cell? ⟨gb423, 3, none⟩ = some (.slice A0_3 l0_3.length c0_3) := (blk_cell BK423.out 3).trans rfl
 have hcz31_4 : wr.cell? ⟨gb423, 4, none⟩ = some (.int .i64 a0_4) := (blk_cell BK423.out 4).trans rfl
 have hcz31_5 : wr.cell? ⟨gb423, 5, none⟩ = some (.int .i64 a0_5) := (blk_cell BK423.out 5).trans rfl
 have hcz31_6 : wr.cell? ⟨gb423, 6, none⟩ = some (.slice A0_6 l0_6.length c0_6) := (blk_cell BK423.out 6).trans rfl
 have hfz31_0 := blk_frozen BK423.out 0
 have hfz31_1 := blk_frozen BK423.out 1
 have hfz31_2 := blk_frozen BK423.out 2
 have hfz31_3 := blk_frozen BK423.out 3
 have hfz31_4 := blk_frozen BK423.out 4
 have hfz31_5 := blk_frozen BK423.out 5
 have hfz31_6 := blk_frozen BK423.out 6
 go_upto_region 9 with (first | ((with_reducible refine gate_callee (f := 10) rfl ?_); refine goesL_ (some 42) rfl rfl Try.func10 (by kernel_rfl) rfl #[.slice A1 l1.length c1] rfl (by (try simp only [List.map_toArray, List.map_cons, List.map_nil]); first | done | rfl | (simp only [List.length_drop, List.length_take]; rfl)) ?_; (with_reducible refine (interlocklaw02_Make.calls k2 _ _ l1 t428 t429 t430 t431 t434 t435 t436 _ ?side1 ?side2 A28.out).mono ?_); (case side1 => repeat (first | exact (Kd.C_below HR1.out HB.out) | (with_reducible refine Kd.C_alloc ?_ _) | (with_reducible refine Kd.C_drewN ?_ _) | (with_reducible refine Kd.C_drew ?_))); (case side2 => exact HC1.out); rintro e w32 ⟨v432, v437, rfl, ho0, ho1, hb⟩; refine ⟨_, rfl, ?_⟩; have n0_ := Aside0.mk (Kd.R_lower ho0 (below_size (by repeat (first | (with_reducible first | exact HB.out | apply below_alloc | apply pw_below_drewN | apply below_drew1 | refine below_set ?_ GE423.out | refine below_set ?_ GE424.out) | exact HB.out)))); have n1_ := Aside0.mk (Kd.S_lower (Kd.S_newB ho1 (g := gb424) (o := .cells #[.int .u8 a6_0, .int .i64 a6_1, .int .i64 a6_2, .int .i64 a6_3] 30 (0, 0)) (by (with_reducible repeat (first | refine blk_drewN ?_ _ | refine blk_drew ?_ | refine blk_alloc ?_ _)); exact BK424.out)) (below_size (by repeat (first | (with_reducible first | exact HB.out | apply below_alloc | apply pw_below_drewN | apply below_drew1 | refine below_set ?_ GE423.out | refine below_set ?_ GE424.out) | exact HB.out)))); have n2_ := Aside0.mk (blk_below (g := gb423) (o := .cells #[.int .i64 a0_0, .int .i64 a0_1, .int .i64 a0_2, .slice A0_3 l0_3.length c0_3, .int .i64 a0_4, .int .i64 a0_5, .slice A0_6 l0_6.length c0_6] 26 (0, 0)) (by (with_reducible repeat (first | refine blk_drewN ?_ _ | refine blk_drew ?_ | refine blk_alloc ?_ _)); exact BK423.out) hb); have n3_ := Aside0.mk (blk_below (g := gb424) (o := .cells #[.int .u8 a6_0, .int .i64 a6_1, .int .i64 a6_2, .int .i64 a6_3] 30 (0, 0)) (by (with_reducible repeat (first | refine blk_drewN ?_ _ | refine blk_drew ?_ | refine blk_alloc ?_ _)); exact BK424.out) hb); have n4_ := Aside0.mk (below_step (by repeat (first | (with_reducible first | exact HB.out | apply below_alloc | apply pw_below_drewN | apply below_drew1 | refine below_set ?_ GE423.out | refine below_set ?_ GE424.out) | exact HB.out)) hb); clear BK423; clear BK424; clear HB; have HO433 := n0_; have HO438 := n1_; have BK423 := n2_; have BK424 := n3_; have HB := n4_; clear n0_ n1_ n2_ n3_ n4_; (try clear hb); (try clear hb2); (try clear hk); (try clear hi); (try clear ho0); (try clear ho1)) | ((with_reducible refine gate_dst (N := 16) rfl ?_); refine box_event ?hg (N := 16) ?hd (cs := #[.int .i64 0, .int .i64 0, .int .i64 0, .slice none 0 0, .int .i64 0, .int .i64 0, .slice none 0 0]) (t := 26) ?hr ?_; (case hd => rfl); (case hg => rfl); (case hr => first | (go_simp; done) | (go_simp; rfl)); intro gb439 hg w33 hbox hb; have n0_ := Aside0.mk (Kd.R_below (by (with_reducible repeat (first | apply Kd.R_alloc | apply Kd.R_drewN | apply Kd.R_drew)); exact HO433.out) hb); have n1_ := Aside0.mk (Kd.S_below (by (with_reducible repeat (first | apply Kd.S_alloc | apply Kd.S_drewN | apply Kd.S_drew)); exact HO438.out) hb); have n2_ := Aside0.mk (blk_below (g := gb423) (o := .cells #[.int .i64 a0_0, .int .i64 a0_1, .int .i64 a0_2, .slice A0_3 l0_3.length c0_3, .int .i64 a0_4, .int .i64 a0_5, .slice A0_6 l0_6.length c0_6] 26 (0, 0)) (by (with_reducible repeat (first | refine blk_drewN ?_ _ | refine blk_drew ?_ | refine blk_alloc ?_ _)); exact BK423.out) hb); have n3_ := Aside0.mk (blk_below (g := gb424) (o := .cells #[.int .u8 a6_0, .int .i64 a6_1, .int .i64 a6_2, .int .i64 a6_3] 30 (0, 0)) (by (with_reducible repeat (first | refine blk_drewN ?_ _ | refine blk_drew ?_ | refine blk_alloc ?_ _)); exact BK424.out) hb); have n4_ := Aside0.mk (below_step (by repeat (first | (with_reducible first | exact HB.out | apply below_alloc | apply pw_below_drewN | apply below_drew1 | refine below_set ?_ GE423.out | refine below_set ?_ GE424.out) | exact HB.out)) hb); have n5_ := Aside0.mk (hbox); have n6_ := Aside0.mk ((by rw [hg]; exact (below_size (by repeat (first | (with_reducible first | exact HB.out | apply below_alloc | apply pw_below_drewN | apply below_drew1 | refine below_set ?_ GE423.out | refine below_set ?_ GE424.out) | exact HB.out))) : w.heap.size ≤ gb439)); have n7_ := Aside0.mk ((by rw [hg]; exact (below_size (by repeat (first | (with_reducible first | exact HB.out | apply below_alloc | apply pw_below_drewN | apply below_drew1 | refine below_set ?_ GE423.out | refine below_set ?_ GE424.out) | exact HB.out))) : w.heap.size ≤ gb439)); have n8_ := Aside0.mk ((by rw [hg]; exact Nat.ne_of_lt (blk_lt (g := gb423) (o := .cells #[.int .i64 a0_0, .int .i64 a0_1, .int .i64 a0_2, .slice A0_3 l0_3.length c0_3, .int .i64 a0_4, .int .i64 a0_5, .slice A0_6 l0_6.length c0_6] 26 (0, 0)) (by (with_reducible repeat (first | refine blk_drewN ?_ _ | refine blk_drew ?_ | refine blk_alloc ?_ _)); exact BK423.out)) : gb423 ≠ gb439)); have n9_ := Aside0.mk ((by rw [hg]; exact Nat.ne_of_gt (blk_lt (g := gb423) (o := .cells #[.int .i64 a0_0, .int .i64 a0_1, .int .i64 a0_2, .slice A0_3 l0_3.length c0_3, .int .i64 a0_4, .int .i64 a0_5, .slice A0_6 l0_6.length c0_6] 26 (0, 0)) (by (with_reducible repeat (first | refine blk_drewN ?_ _ | refine blk_drew ?_ | refine blk_alloc ?_ _)); exact BK423.out)) : gb439 ≠ gb423)); have n10_ := Aside0.mk ((by rw [hg]; exact Nat.ne_of_lt (blk_lt (g := gb424) (o := .cells #[.int .u8 a6_0, .int .i64 a6_1, .int .i64 a6_2, .int .i64 a6_3] 30 (0, 0)) (by (with_reducible repeat (first | refine blk_drewN ?_ _ | refine blk_drew ?_ | refine blk_alloc ?_ _)); exact BK424.out)) : gb424 ≠ gb439)); have n11_ := Aside0.mk ((by rw [hg]; exact Nat.ne_of_gt (blk_lt (g := gb424) (o := .cells #[.int .u8 a6_0, .int .i64 a6_1, .int .i64 a6_2, .int .i64 a6_3] 30 (0, 0)) (by (with_reducible repeat (first | refine blk_drewN ?_ _ | refine blk_drew ?_ | refine blk_alloc ?_ _)); exact BK424.out)) : gb439 ≠ gb424)); clear HO433; clear HO438; clear BK423; clear BK424; clear HB; have HO433 := n0_; have HO438 := n1_; have BK423 := n2_; have BK424 := n3_; have HB := n4_; have BK439 := n5_; have GW439 := n6_; have GE439 := n7_; have NB423_439 := n8_; have NB439_423 := n9_; have NB424_439 := n10_; have NB439_424 := n11_; clear n0_ n1_ n2_ n3_ n4_ n5_ n6_ n7_ n8_ n9_ n10_ n11_; clear hb hbox hg; have hnb34 := NB439_423.out; have hnc34 := NB423_439.out; have hnb35 := NB439_424.out; have hnc35 := NB424_439.out; have hcz36_0 : w33.cell? ⟨gb439, 0, none⟩ = some (.int .i64 0) := (blk_cell BK439.out 0).trans rfl; have hcz36_1 : w33.cell? ⟨gb439, 1, none⟩ = some (.int .i64 0) := (blk_cell BK439.out 1).trans rfl; have hcz36_2 : w33.cell? ⟨gb439, 2, none⟩ = some (.int .i64 0) := (blk_cell BK439.out 2).trans rfl; have hcz36_3 : w33.cell? ⟨gb439, 3, none⟩ = some (.slice none 0 0) := (blk_cell BK439.out 3).trans rfl; have hcz36_4 : w33.cell? ⟨gb439, 4, none⟩ = some (.int .i64 0) := (blk_cell BK439.out 4).trans rfl; have hcz36_5 : w33.cell? ⟨gb439, 5, none⟩ = some (.int .i64 0) := (blk_cell BK439.out 5).trans rfl; have hcz36_6 : w33.cell? ⟨gb439, 6, none⟩ = some (.slice none 0 0) := (blk_cell BK439.out 6).trans rfl; have hfz36_0 := blk_frozen BK439.out 0; have hfz36_1 := blk_frozen BK439.out 1; have hfz36_2 := blk_frozen BK439.out 2; have hfz36_3 := blk_frozen BK439.out 3; have hfz36_4 := blk_frozen BK439.out 4; have hfz36_5 := blk_frozen BK439.out 5; have hfz36_6 := blk_frozen BK439.out 6; obtain ⟨Ao37, co37, eo37⟩ := Kd.R_slice HO433.out; subst eo37; obtain ⟨Ao38, co38, eo38⟩ := Kd.S_slice HO438.out; subst eo38))
 (try simp only [Act.put, List.setIfInBounds_toArray, List.set_cons_zero, List.set_cons_succ])
 go_cut [53] (fun v53 wc => ∃ (kq : Nat) (x53_28 : Bool), v53 = .bool x53_28 ∧ Aside0 (interlocklaw02_IrSounds.j2 kq a2 a3 a4 a5 x53_28 a6_0 a6_1 a6_2 a6_3 t428 t429 t430 t431 t434 t435 t436 = some r) ∧ Aside0 (kq ≤ k2) ∧ Aside0 (Kd.R (Kd.int .i64) 3 wc w.heap.size (fun _ => True) (.slice Ao37 t431.length co37) t431) ∧ Aside0 (Kd.S (Kd.slice 30 k30) 28 wc w.heap.size (fun k_ => k_ ≠ gb424) (.slice Ao38 t436.length co38) t436) ∧ Aside0 (wc.heap[gb423]? = some (.cells #[.int .i64 a0_0, .int .i64 a0_1, .int .i64 a0_2, (.slice A0_3 l0_3.length c0_3), .int .i64 a0_4, .int .i64 a0_5, (.slice A0_6 l0_6.length c0_6)] 26 (0, 0))) ∧ Aside0 (wc.heap[gb424]? = some (.cells #[.int .u8 a6_0, .int .i64 a6_1, .int .i64 a6_2, .int .i64 a6_3] 30 (0, 0))) ∧ Aside0 (wc.heap[gb439]? = some (.cells #[.int .i64 t428, .int .i64 t429, .int .i64 t430, (.slice Ao37 t431.length co37), .int .i64 t434, .int .i64 t435, (.slice Ao38 t436.length co38)] 26 (0, 0))) ∧ Aside0 (Below w.heap.size w wc))
 case first => (
 have H := HC29.out
 clear HC29
 replace H := Option.bind_eq_some_iff.mp H
 obtain ⟨t440, A390, H⟩ := H
 replace H : (if t440 = 0 then ((ir_Sound.f a0_0 a0_1 a0_2 l0_3 a0_4 a0_5 l0_6).bind fun t441 => ((interlockref02_Sound.f k2 a0_0 a0_1 a0_2 l0_3 a0_4 a0_5 l0_6).bind fun t442 => (interlocklaw02_IrSounds.j2 k2 a2 a3 a4 a5 ((wrap64 (t441)) != t442) a6_0 a6_1 a6_2 a6_3 t428 t429 t430 t431 t434 t435 t436))) else (interlocklaw02_IrSounds.j2 k2 a2 a3 a4 a5 true a6_0 a6_1 a6_2 a6_3 t428 t429 t430 t431 t434 t435 t436)) = some r := H
 have A39 := Aside0.mk A390
 clear A390
 by_cases c40 : t440 = 0
 {
 rw [if_pos c40] at H
 have c40b0 : (t440 == 0) = true := beq_iff_eq.mpr c40
 have c40b1 : (t440 != 0) = false := bne_eq_false_iff_eq.mpr c40
 clear c40
 (first | rw [c40b0] | (simp only [i64_w, i32_w]; rw [c40b0]) | skip)
 replace H := Option.bind_eq_some_iff.mp H
 obtain ⟨t441, A410, H⟩ := H
 replace H : ((interlockref02_Sound.f k2 a0_0 a0_1 a0_2 l0_3 a0_4 a0_5 l0_6).bind fun t442 => (interlocklaw02_IrSounds.j2 k2 a2 a3 a4 a5 ((wrap64 (t441)) != t442) a6_0 a6_1 a6_2 a6_3 t428 t429 t430 t431 t434 t435 t436)) = some r := H
 have A41 := Aside0.mk A410
 clear A410
 replace H := Option.bind_eq_some_iff.mp H
 obtain ⟨t442, A420, H⟩ := H
 replace H : (interlocklaw02_IrSounds.j2 k2 a2 a3 a4 a5 ((wrap64 (t441)) != t442) a6_0 a6_1 a6_2 a6_3 t428 t429 t430 t431 t434 t435 t436) = some r := H
 have A42 := Aside0.mk A420
 clear A420
 have H' := Aside0.mk H
 clear H
 try go_wp2
 have n0_ : Aside0 (Kd.R (Kd.int .i64) 3 (((((((w33.setCell ⟨gb439, 0, none⟩ (.int .i64 t428)).setCell ⟨gb439, 1, none⟩ (.int .i64 t429)).setCell ⟨gb439, 2, none⟩ (.int .i64 t430)).setCell ⟨gb439, 3, none⟩ (.slice Ao37 t431.length co37)).setCell ⟨gb439, 4, none⟩ (.int .i64 t434)).setCell ⟨gb439, 5, none⟩ (.int .i64 t435)).setCell ⟨gb439, 6, none⟩ (.slice Ao38 t436.length co38)) w.heap.size (fun _ => True) (.slice Ao37 t431.length co37) t431) := ⟨by (with_reducible repeat (first | apply Kd.R_alloc | apply Kd.R_drewN | apply Kd.R_drew)); exact Kd.R_mono (Kd.R_far (p := ⟨gb439, 6, none⟩) (Kd.R_far (p := ⟨gb439, 5, none⟩) (Kd.R_far (p := ⟨gb439, 4, none⟩) (Kd.R_far (p := ⟨gb439, 3, none⟩) (Kd.R_far (p := ⟨gb439, 2, none⟩) (Kd.R_far (p := ⟨gb439, 1, none⟩) (Kd.R_far (p := ⟨gb439, 0, none⟩) (Kd.R_types HO433.out BK439.out (by decide)) (fun _ hk => hk.2) (.int .i64 t428)) (fun _ hk => hk.2) (.int .i64 t429)) (fun _ hk => hk.2) (.int .i64 t430)) (fun _ hk => hk.2) (.slice Ao37 t431.length co37)) (fun _ hk => hk.2) (.int .i64 t434)) (fun _ hk => hk.2) (.int .i64 t435)) (fun _ hk => hk.2) (.slice Ao38 t436.length co38)) (fun _ hk => trivial)⟩
 have n1_ : Aside0 (Kd.S (Kd.slice 30 k30) 28 (((((((w33.setCell ⟨gb439, 0, none⟩ (.int .i64 t428)).setCell ⟨gb439, 1, none⟩ (.int .i64 t429)).setCell ⟨gb439, 2, none⟩ (.int .i64 t430)).setCell ⟨gb439, 3, none⟩ (.slice Ao37 t431.length co37)).setCell ⟨gb439, 4, none⟩ (.int .i64 t434)).setCell ⟨gb439, 5, none⟩ (.int .i64 t435)).setCell ⟨gb439, 6, none⟩ (.slice Ao38 t436.length co38)) w.heap.size (fun k_ => k_ ≠ gb424) (.slice Ao38 t436.length co38) t436) := ⟨by (with_reducible repeat (first | apply Kd.S_alloc | apply Kd.S_drewN | apply Kd.S_drew)); exact Kd.S_mono (Kd.S_far (p := ⟨gb439, 6, none⟩) (Kd.S_far (p := ⟨gb439, 5, none⟩) (Kd.S_far (p := ⟨gb439, 4, none⟩) (Kd.S_far (p := ⟨gb439, 3, none⟩) (Kd.S_far (p := ⟨gb439, 2, none⟩) (Kd.S_far (p := ⟨gb439, 1, none⟩) (Kd.S_far (p := ⟨gb439, 0, none⟩) (Kd.S_types HO438.out BK439.out (by decide)) (fun _ hk => hk.2) (.int .i64 t428)) (fun _ hk => hk.2) (.int .i64 t429)) (fun _ hk => hk.2) (.int .i64 t430)) (fun _ hk => hk.2) (.slice Ao37 t431.length co37)) (fun _ hk => hk.2) (.int .i64 t434)) (fun _ hk => hk.2) (.int .i64 t435)) (fun _ hk => hk.2) (.slice Ao38 t436.length co38)) (fun _ hk => hk.1.2)⟩
 have n2_ : Aside0 ((((((((w33.setCell ⟨gb439, 0, none⟩ (.int .i64 t428)).setCell ⟨gb439, 1, none⟩ (.int .i64 t429)).setCell ⟨gb439, 2, none⟩ (.int .i64 t430)).setCell ⟨gb439, 3, none⟩ (.slice Ao37 t431.length co37)).setCell ⟨gb439, 4, none⟩ (.int .i64 t434)).setCell ⟨gb439, 5, none⟩ (.int .i64 t435)).setCell ⟨gb439, 6, none⟩ (.slice Ao38 t436.length co38)).heap[gb423]? = some (.cells #[.int .i64 a0_0, .int .i64 a0_1, .int .i64 a0_2, .slice A0_3 l0_3.length c0_3, .int .i64 a0_4, .int .i64 a0_5, .slice A0_6 l0_6.length c0_6] 26 (0, 0))) := ⟨by (with_reducible repeat (first | refine blk_drewN ?_ _ | refine blk_drew ?_ | refine blk_alloc ?_ _)); refine blk_far ?_ NB423_439.out _; (with_reducible repeat (first | refine blk_drewN ?_ _ | refine blk_drew ?_ | refine blk_alloc ?_ _)); refine blk_far ?_ NB423_439.out _; (with_reducible repeat (first | refine blk_drewN ?_ _ | refine blk_drew ?_ | refine blk_alloc ?_ _)); refine blk_far ?_ NB423_439.out _; (with_reducible repeat (first | refine blk_drewN ?_ _ | refine blk_drew ?_ | refine blk_alloc ?_ _)); refine blk_far ?_ NB423_439.out _; (with_reducible repeat (first | refine blk_drewN ?_ _ | refine blk_drew ?_ | refine blk_alloc ?_ _)); refine blk_far ?_ NB423_439.out _; (with_reducible repeat (first | refine blk_drewN ?_ _ | refine blk_drew ?_ | refine blk_alloc ?_ _)); refine blk_far ?_ NB423_439.out _; (with_reducible repeat (first | refine blk_drewN ?_ _ | refine blk_drew ?_ | refine blk_alloc ?_ _)); refine blk_far ?_ NB423_439.out _; (with_reducible repeat (first | refine blk_drewN ?_ _ | refine blk_drew ?_ | refine blk_alloc ?_ _)); exact BK423.out⟩
 have n3_ : Aside0 ((((((((w33.setCell ⟨gb439, 0, none⟩ (.int .i64 t428)).setCell ⟨gb439, 1, none⟩ (.int .i64 t429)).setCell ⟨gb439, 2, none⟩ (.int .i64 t430)).setCell ⟨gb439, 3, none⟩ (.slice Ao37 t431.length co37)).setCell ⟨gb439, 4, none⟩ (.int .i64 t434)).setCell ⟨gb439, 5, none⟩ (.int .i64 t435)).setCell ⟨gb439, 6, none⟩ (.slice Ao38 t436.length co38)).heap[gb424]? = some (.cells #[.int .u8 a6_0, .int .i64 a6_1, .int .i64 a6_2, .int .i64 a6_3] 30 (0, 0))) := ⟨by (with_reducible repeat (first | refine blk_drewN ?_ _ | refine blk_drew ?_ | refine blk_alloc ?_ _)); refine blk_far ?_ NB424_439.out _; (with_reducible repeat (first | refine blk_drewN ?_ _ | refine blk_drew ?_ | refine blk_alloc ?_ _)); refine blk_far ?_ NB424_439.out _; (with_reducible repeat (first | refine blk_drewN ?_ _ | refine blk_drew ?_ | refine blk_alloc ?_ _)); refine blk_far ?_ NB424_439.out _; (with_reducible repeat (first | refine blk_drewN ?_ _ | refine blk_drew ?_ | refine blk_alloc ?_ _)); refine blk_far ?_ NB424_439.out _; (with_reducible repeat (first | refine blk_drewN ?_ _ | refine blk_drew ?_ | refine blk_alloc ?_ _)); refine blk_far ?_ NB424_439.out _; (with_reducible repeat (first | refine blk_drewN ?_ _ | refine blk_drew ?_ | refine blk_alloc ?_ _)); refine blk_far ?_ NB424_439.out _; (with_reducible repeat (first | refine blk_drewN ?_ _ | refine blk_drew ?_ | refine blk_alloc ?_ _)); refine blk_far ?_ NB424_439.out _; (with_reducible repeat (first | refine blk_drewN ?_ _ | refine blk_drew ?_ | refine blk_alloc ?_ _)); exact BK424.out⟩
 have n4_ : Aside0 ((((((((w33.setCell ⟨gb439, 0, none⟩ (.int .i64 t428)).setCell ⟨gb439, 1, none⟩ (.int .i64 t429)).setCell ⟨gb439, 2, none⟩ (.int .i64 t430)).setCell ⟨gb439, 3, none⟩ (.slice Ao37 t431.length co37)).setCell ⟨gb439, 4, none⟩ (.int .i64 t434)).setCell ⟨gb439, 5, none⟩ (.int .i64 t435)).setCell ⟨gb439, 6, none⟩ (.slice Ao38 t436.length co38)).heap[gb439]? = some (.cells #[.int .i64 t428, .int .i64 t429, .int .i64 t430, .slice Ao37 t431.length co37, .int .i64 t434, .int .i64 t435, .slice Ao38 t436.length co38] 26 (0, 0))) := ⟨by (with_reducible repeat (first | refine blk_drewN ?_ _ | refine blk_drew ?_ | refine blk_alloc ?_ _)); refine blk_put (cs := #[.int .i64 t428, .int .i64 t429, .int .i64 t430, .slice Ao37 t431.length co37, .int .i64 t434, .int .i64 t435, .slice none 0 0]) ?_ 6 _ rfl; (with_reducible repeat (first | refine blk_drewN ?_ _ | refine blk_drew ?_ | refine blk_alloc ?_ _)); refine blk_put (cs := #[.int .i64 t428, .int .i64 t429, .int .i64 t430, .slice Ao37 t431.length co37, .int .i64 t434, .int .i64 0, .slice none 0 0]) ?_ 5 _ rfl; (with_reducible repeat (first | refine blk_drewN ?_ _ | refine blk_drew ?_ | refine blk_alloc ?_ _)); refine blk_put (cs := #[.int .i64 t428, .int .i64 t429, .int .i64 t430, .slice Ao37 t431.length co37, .int .i64 0, .int .i64 0, .slice none 0 0]) ?_ 4 _ rfl; (with_reducible repeat (first | refine blk_drewN ?_ _ | refine blk_drew ?_ | refine blk_alloc ?_ _)); refine blk_put (cs := #[.int .i64 t428, .int .i64 t429, .int .i64 t430, .slice none 0 0, .int .i64 0, .int .i64 0, .slice none 0 0]) ?_ 3 _ rfl; (with_reducible repeat (first | refine blk_drewN ?_ _ | refine blk_drew ?_ | refine blk_alloc ?_ _)); refine blk_put (cs := #[.int .i64 t428, .int .i64 t429, .int .i64 0, .slice none 0 0, .int .i64 0, .int .i64 0, .slice none 0 0]) ?_ 2 _ rfl; (with_reducible repeat (first | refine blk_drewN ?_ _ | refine blk_drew ?_ | refine blk_alloc ?_ _)); refine blk_put (cs := #[.int .i64 t428, .int .i64 0, .int .i64 0, .slice none 0 0, .int .i64 0, .int .i64 0, .slice none 0 0]) ?_ 1 _ rfl; (with_reducible repeat (first | refine blk_drewN ?_ _ | refine blk_drew ?_ | refine blk_alloc ?_ _)); refine blk_put (cs := #[.int .i64 0, .int .i64 0, .int .i64 0, .slice none 0 0, .int .i64 0, .int .i64 0, .slice none 0 0]) ?_ 0 _ rfl; (with_reducible repeat (first | refine blk_drewN ?_ _ | refine blk_drew ?_ | refine blk_alloc ?_ _)); exact BK439.out⟩
 have n5_ : Aside0 (Below w.heap.size w (((((((w33.setCell ⟨gb439, 0, none⟩ (.int .i64 t428)).setCell ⟨gb439, 1, none⟩ (.int .i64 t429)).setCell ⟨gb439, 2, none⟩ (.int .i64 t430)).setCell ⟨gb439, 3, none⟩ (.slice Ao37 t431.length co37)).setCell ⟨gb439, 4, none⟩ (.int .i64 t434)).setCell ⟨gb439, 5, none⟩ (.int .i64 t435)).setCell ⟨gb439, 6, none⟩ (.slice Ao38 t436.length co38))) := ⟨by repeat (first | (with_reducible first | exact HB.out | apply below_alloc | apply pw_below_drewN | apply below_drew1 | refine below_set ?_ GE423.out | refine below_set ?_ GE424.out | refine below_set ?_ GE439.out) | exact HB.out)⟩
 (try clear HO433)
 (try clear HO438)
 (try clear BK423)
 (try clear BK424)
 (try clear BK439)
 (try clear HB)
 generalize (((((((w33.setCell ⟨gb439, 0, none⟩ (.int .i64 t428)).setCell ⟨gb439, 1, none⟩ (.int .i64 t429)).setCell ⟨gb439, 2, none⟩ (.int .i64 t430)).setCell ⟨gb439, 3, none⟩ (.slice Ao37 t431.length co37)).setCell ⟨gb439, 4, none⟩ (.int .i64 t434)).setCell ⟨gb439, 5, none⟩ (.int .i64 t435)).setCell ⟨gb439, 6, none⟩ (.slice Ao38 t436.length co38)) = w43 at n0_ n1_ n2_ n3_ n4_ n5_ ⊢
 have HO433 := n0_
 have HO438 := n1_
 have BK423 := n2_
 have BK424 := n3_
 have BK439 := n4_
 have HB := n5_
 clear n0_ n1_ n2_ n3_ n4_ n5_
 have n0_ := Aside0.mk (Kd.R_drew HO433.out)
 have n1_ := Aside0.mk (Kd.S_drew HO438.out)
 have n2_ := Aside0.mk (blk_drew BK423.out)
 have n3_ := Aside0.mk (blk_drew BK424.out)
 have n4_ := Aside0.mk (blk_drew BK439.out)
 have n5_ := Aside0.mk (below_drew1 HB.out)
 clear HO433
 clear HO438
 clear BK423
 clear BK424
 clear BK439
 clear HB
 have HO433 := n0_
 have HO438 := n1_
 have BK423 := n2_
 have BK424 := n3_
 have BK439 := n4_
 have HB := n5_
 clear n0_ n1_ n2_ n3_ n4_ n5_
 refine start_ (n := 11) (S := fun w' => w'.cell? ⟨gb439, 0, none⟩ = some (.int .i64 t428) ∧ w'.cell? ⟨gb439, 1, none⟩ = some (.int .i64 t429) ∧ w'.cell? ⟨gb439, 2, none⟩ = some (.int .i64 t430) ∧ w'.cell? ⟨gb439, 3, none⟩ = some (.slice Ao37 t431.length co37) ∧ w'.cell? ⟨gb439, 4, none⟩ = some (.int .i64 t434) ∧ w'.cell? ⟨gb439, 5, none⟩ = some (.int .i64 t435) ∧ w'.cell? ⟨gb439, 6, none⟩ = some (.slice Ao38 t436.length co38) ∧ w'.cell? ⟨gb423, 0, none⟩ = some (.int .i64 a0_0) ∧ w'.cell? ⟨gb423, 1, none⟩ = some (.int .i64 a0_1) ∧ w'.cell? ⟨gb423, 2, none⟩ = some (.int .i64 a0_2) ∧ w'.cell? ⟨gb423, 3, none⟩ = some (.slice A0_3 l0_3.length c0_3) ∧ w'.cell? ⟨gb423, 4, none⟩ = some (.int .i64 a0_4) ∧ w'.cell? ⟨gb423, 5, none⟩ = some (.int .i64 a0_5) ∧ w'.cell? ⟨gb423, 6, none⟩ = some (.slice A0_6 l0_6.length c0_6)) (ds := []) #[false, false, false, false, false, false, false, false, false, false, false] (by kernel_rfl) rfl rfl ⟨(blk_cell BK439.out 0).trans rfl, (blk_cell BK439.out 1).trans rfl, (blk_cell BK439.out 2).trans rfl, (blk_cell BK439.out 3).trans rfl, (blk_cell BK439.out 4).trans rfl, (blk_cell BK439.out 5).trans rfl, (blk_cell BK439.out 6).trans rfl, (blk_cell BK423.out 0).trans rfl, (blk_cell BK423.out 1).trans rfl, (blk_cell BK423.out 2).trans rfl, (blk_cell BK423.out 3).trans rfl, (blk_cell BK423.out 4).trans rfl, (blk_cell BK423.out 5).trans rfl, (blk_cell BK423.out 6).trans rfl⟩ (fun hHeld => ?_); refine with_tabW interlocklaw02_IrSounds.tab9 interlocklaw02_IrSounds.bits9 (fun HT_ HW_ => ?_)
 generalize w43.drew = w44 at HO433 HO438 BK423 BK424 BK439 HB hHeld ⊢
 refine take_ (i := 0) (N := some 43) (v := ?_) (a' := ?_) #[true, false, false, false, false, false, false, false, false, false, false] rfl rfl (take_ofW HT_.out HW_.out (by kernel_rfl)) (fun _ _ _ h => h) (Or.inl ⟨by rfl, ?_⟩) hHeld ?_ ?_
 rotate_left
 {
 rintro w' ⟨s0, s1, s2, s3, s4, s5, s6, s7, s8, s9, s10, s11, s12, s13⟩
 go_simp
 with_reducible rfl
 }
 rotate_left
 {
 simp only [Act.put, List.setIfInBounds_toArray, List.set_cons_zero, List.set_cons_succ, i64_w, i32_w]
 rfl
 }
 refine one_ (i := 1) (N := some 44) #[true, true, false, false, false, false, false, false, false, false, false] rfl rfl (one_of HT_.out (by kernel_rfl)) (by decide) (fun K hK => ?_)
 refine goes_ Try.func12 (by kernel_rfl) rfl #[.agg #[.int .i64 t428, .int .i64 t429, .int .i64 t430, .slice Ao37 t431.length co37, .int .i64 t434, .int .i64 t435, .slice Ao38 t436.length co38]] (by rfl) rfl rfl (by (try simp only [List.map_toArray, List.map_cons, List.map_nil]); first | done | rfl | (simp only [List.length_drop, List.length_take]; rfl)) ?_
 with_reducible refine (ir_Sound.calls t428 t429 t430 _ _ t431 t434 t435 _ _ t436 t440 _ ?side1 ?side2 ?side3 ?side4 A39.out).mono ?_
 (case side1 => repeat (first | exact (Kd.R_reads' HO433.out).2.2 | (with_reducible refine Kd.C_alloc ?_ _) | (with_reducible refine Kd.C_drewN ?_ _) | (with_reducible refine Kd.C_drew ?_)))
 (case side2 => exact (Kd.R_reads' HO433.out).2.1)
 (case side3 => repeat (first | exact (Kd.S_reads' HO438.out).2.2 | (with_reducible refine Kd.C_alloc ?_ _) | (with_reducible refine Kd.C_drewN ?_ _) | (with_reducible refine Kd.C_drew ?_)))
 (case side4 => exact (Kd.S_reads' HO438.out).2.1)
 rintro e w45 ⟨rfl, hb⟩
 refine ⟨_, rfl, ?_⟩
 have n0_ := Aside0.mk (Kd.R_below (by (with_reducible repeat (first | apply Kd.R_alloc | apply Kd.R_drewN | apply Kd.R_drew)); exact HO433.out) hb)
 have n1_ := Aside0.mk (Kd.S_below (by (with_reducible repeat (first | apply Kd.S_alloc | apply Kd.S_drewN | apply Kd.S_drew)); exact HO438.out) hb)
 have n2_ := Aside0.mk (blk_below (g := gb423) (o := .cells #[.int .i64 a0_0, .int .i64 a0_1, .int .i64 a0_2, .slice A0_3 l0_3.length c0_3, .int .i64 a0_4, .int .i64 a0_5, .slice A0_6 l0_6.length c0_6] 26 (0, 0)) (by (with_reducible repeat (first | refine blk_drewN ?_ _ | refine blk_drew ?_ | refine blk_alloc ?_ _)); exact BK423.out) hb)
 have n3_ := Aside0.mk (blk_below (g := gb424) (o := .cells #[.int .u8 a6_0, .int .i64 a6_1, .int .i64 a6_2, .int .i64 a6_3] 30 (0, 0)) (by (with_reducible repeat (first | refine blk_drewN ?_ _ | refine blk_drew ?_ | refine blk_alloc ?_ _)); exact BK424.out) hb)
 have n4_ := Aside0.mk (blk_below (g := gb439) (o := .cells #[.int .i64 t428, .int .i64 t429, .int .i64 t430, .slice Ao37 t431.length co37, .int .i64 t434, .int .i64 t435, .slice Ao38 t436.length co38] 26 (0, 0)) (by (with_reducible repeat (first | refine blk_drewN ?_ _ | refine blk_drew ?_ | refine blk_alloc ?_ _)); exact BK439.out) hb)
 have n5_ := Aside0.mk (below_step (by repeat (first | (with_reducible first | exact HB.out | apply below_alloc | apply pw_below_drewN | apply below_drew1 | refine below_set ?_ GE423.out | refine below_set ?_ GE424.out | refine below_set ?_ GE439.out) | exact HB.out)) hb)
 clear HO433
 clear HO438
 clear BK423
 clear BK424
 clear BK439
 clear HB
 have HO433 := n0_
 have HO438 := n1_
 have BK423 := n2_
 have BK424 := n3_
 have BK439 := n4_
 have HB := n5_
 clear n0_ n1_ n2_ n3_ n4_ n5_
 (try clear hb)
 (try clear hb2)
 (try clear hk)
 (try clear hi)
 refine hK.out _ _ ⟨(blk_cell BK439.out 0).trans rfl, (blk_cell BK439.out 1).trans rfl, (blk_cell BK439.out 2).trans rfl, (blk_cell BK439.out 3).trans rfl, (blk_cell BK439.out 4).trans rfl, (blk_cell BK439.out 5).trans rfl, (blk_cell BK439.out 6).trans rfl, (blk_cell BK423.out 0).trans rfl, (blk_cell BK423.out 1).trans rfl, (blk_cell BK423.out 2).trans rfl, (blk_cell BK423.out 3).trans rfl, (blk_cell BK423.out 4).trans rfl, (blk_cell BK423.out 5).trans rfl, (blk_cell BK423.out 6).trans rfl⟩ (fun hHeld => ?_)
 clear hK K
 refine norm_ (a' := ?_) ?_ ?_
 rotate_left
 {
 show Act.put _ (some 44) _ = _
 simp only [Act.put, List.setIfInBounds_toArray, List.set_cons_zero, List.set_cons_succ, i64_w, i32_w]
 rfl
 }
 refine pure_ (i := 2) (N := some 45) (v := ?_) (a' := ?_) #[true, true, true, false, false, false, false, false, false, false, false] rfl rfl (any_of HT_.out (by kernel_rfl)) (fun _ _ _ h => h) (Or.inl ⟨by rfl, ?_⟩) ?_ ?_
 rotate_left
 {
 intro w'
 go_simp
 with_reducible rfl
 }
 rotate_left
 {
 simp only [Act.put, List.setIfInBounds_toArray, List.set_cons_zero, List.set_cons_succ, i64_w, i32_w]
 rfl
 }
 refine pure_ (i := 3) (N := some 46) (v := ?_) (a' := ?_) #[true, true, true, true, false, false, false, false, false, false, false] rfl rfl (any_of HT_.out (by kernel_rfl)) (fun _ _ _ h => h) (Or.inl ⟨by rfl, ?_⟩) ?_ ?_
 rotate_left
 {
 intro w'
 go_simp
 with_reducible rfl
 }
 rotate_left
 {
 simp only [Act.put, List.setIfInBounds_toArray, List.set_cons_zero, List.set_cons_succ, i64_w, i32_w]
 rfl
 }
 refine take_ (i := 4) (N := some 47) (v := ?_) (a' := ?_) #[true, true, true, true, true, false, false, false, false, false, false] rfl rfl (take_ofW HT_.out HW_.out (by kernel_rfl)) (fun _ _ _ h => h) (Or.inl ⟨by rfl, ?_⟩) hHeld ?_ ?_
 rotate_left
 {
 rintro w' ⟨s0, s1, s2, s3, s4, s5, s6, s7, s8, s9, s10, s11, s12, s13⟩
 go_simp
 with_reducible rfl
 }
 rotate_left
 {
 simp only [Act.put, List.setIfInBounds_toArray, List.set_cons_zero, List.set_cons_succ, i64_w, i32_w]
 rfl
 }
 refine take_ (i := 7) (N := some 50) (v := ?_) (a' := ?_) #[true, true, true, true, true, false, false, true, false, false, false] rfl rfl (take_ofW HT_.out HW_.out (by kernel_rfl)) (fun _ _ _ h => h) (Or.inl ⟨by rfl, ?_⟩) hHeld ?_ ?_
 rotate_left
 {
 rintro w' ⟨s0, s1, s2, s3, s4, s5, s6, s7, s8, s9, s10, s11, s12, s13⟩
 go_simp
 with_reducible rfl
 }
 rotate_left
 {
 simp only [Act.put, List.setIfInBounds_toArray, List.set_cons_zero, List.set_cons_succ, i64_w, i32_w]
 rfl
 }
 refine one_ (i := 5) (N := some 48) #[true, true, true, true, true, true, false, true, false, false, false] rfl rfl (one_of HT_.out (by kernel_rfl)) (by decide) (fun K hK => ?_)
 refine goes_ Try.func12 (by kernel_rfl) rfl #[.agg #[.int .i64 a0_0, .int .i64 a0_1, .int .i64 a0_2, .slice A0_3 l0_3.length c0_3, .int .i64 a0_4, .int .i64 a0_5, .slice A0_6 l0_6.length c0_6]] (by rfl) rfl rfl (by (try simp only [List.map_toArray, List.map_cons, List.map_nil]); first | done | rfl | (simp only [List.length_drop, List.length_take]; rfl)) ?_
 with_reducible refine (ir_Sound.calls a0_0 a0_1 a0_2 _ _ l0_3 a0_4 a0_5 _ _ l0_6 t441 _ ?side1 ?side2 ?side3 ?side4 A41.out).mono ?_
 (case side1 => repeat (first | exact (Kd.C_below HR0_3.out HB.out) | (with_reducible refine Kd.C_alloc ?_ _) | (with_reducible refine Kd.C_drewN ?_ _) | (with_reducible refine Kd.C_drew ?_)))
 (case side2 => exact HC0_3.out)
 (case side3 => repeat (first | exact (Kd.C_below HR0_6.out HB.out) | (with_reducible refine Kd.C_alloc ?_ _) | (with_reducible refine Kd.C_drewN ?_ _) | (with_reducible refine Kd.C_drew ?_)))
 (case side4 => exact HC0_6.out)
 rintro e w46 ⟨rfl, hb⟩
 refine ⟨_, rfl, ?_⟩
 have n0_ := Aside0.mk (Kd.R_below (by (with_reducible repeat (first | apply Kd.R_alloc | apply Kd.R_drewN | apply Kd.R_drew)); exact HO433.out) hb)
 have n1_ := Aside0.mk (Kd.S_below (by (with_reducible repeat (first | apply Kd.S_alloc | apply Kd.S_drewN | apply Kd.S_drew)); exact HO438.out) hb)
 have n2_ := Aside0.mk (blk_below (g := gb423) (o := .cells #[.int .i64 a0_0, .int .i64 a0_1, .int .i64 a0_2, .slice A0_3 l0_3.length c0_3, .int .i64 a0_4, .int .i64 a0_5, .slice A0_6 l0_6.length c0_6] 26 (0, 0)) (by (with_reducible repeat (first | refine blk_drewN ?_ _ | refine blk_drew ?_ | refine blk_alloc ?_ _)); exact BK423.out) hb)
 have n3_ := Aside0.mk (blk_below (g := gb424) (o := .cells #[.int .u8 a6_0, .int .i64 a6_1, .int .i64 a6_2, .int .i64 a6_3] 30 (0, 0)) (by (with_reducible repeat (first | refine blk_drewN ?_ _ | refine blk_drew ?_ | refine blk_alloc ?_ _)); exact BK424.out) hb)
 have n4_ := Aside0.mk (blk_below (g := gb439) (o := .cells #[.int .i64 t428, .int .i64 t429, .int .i64 t430, .slice Ao37 t431.length co37, .int .i64 t434, .int .i64 t435, .slice Ao38 t436.length co38] 26 (0, 0)) (by (with_reducible repeat (first | refine blk_drewN ?_ _ | refine blk_drew ?_ | refine blk_alloc ?_ _)); exact BK439.out) hb)
 have n5_ := Aside0.mk (below_step (by repeat (first | (with_reducible first | exact HB.out | apply below_alloc | apply pw_below_drewN | apply below_drew1 | refine below_set ?_ GE423.out | refine below_set ?_ GE424.out | refine below_set ?_ GE439.out) | exact HB.out)) hb)
 clear HO433
 clear HO438
 clear BK423
 clear BK424
 clear BK439
 clear HB
 have HO433 := n0_
 have HO438 := n1_
 have BK423 := n2_
 have BK424 := n3_
 have BK439 := n4_
 have HB := n5_
 clear n0_ n1_ n2_ n3_ n4_ n5_
 (try clear hb)
 (try clear hb2)
 (try clear hk)
 (try clear hi)
 refine hK.out _ _ ⟨(blk_cell BK439.out 0).trans rfl, (blk_cell BK439.out 1).trans rfl, (blk_cell BK439.out 2).trans rfl, (blk_cell BK439.out 3).trans rfl, (blk_cell BK439.out 4).trans rfl, (blk_cell BK439.out 5).trans rfl, (blk_cell BK439.out 6).trans rfl, (blk_cell BK423.out 0).trans rfl, (blk_cell BK423.out 1).trans rfl, (blk_cell BK423.out 2).trans rfl, (blk_cell BK423.out 3).trans rfl, (blk_cell BK423.out 4).trans rfl, (blk_cell BK423.out 5).trans rfl, (blk_cell BK423.out 6).trans rfl⟩ (fun hHeld => ?_)
 clear hK K
 refine norm_ (a' := ?_) ?_ ?_
 rotate_left
 {
 show Act.put _ (some 48) _ = _
 simp only [Act.put, List.setIfInBounds_toArray, List.set_cons_zero, List.set_cons_succ, i64_w, i32_w]
 rfl
 }
 refine pure_ (i := 6) (N := some 49) (v := ?_) (a' := ?_) #[true, true, true, true, true, true, true, true, false, false, false] rfl rfl (any_of HT_.out (by kernel_rfl)) (fun _ _ _ h => h) (Or.inl ⟨by rfl, ?_⟩) ?_ ?_
 rotate_left
 {
 intro w'
 go_simp
 with_reducible rfl
 }
 rotate_left
 {
 simp only [Act.put, List.setIfInBounds_toArray, List.set_cons_zero, List.set_cons_succ, i64_w, i32_w]
 rfl
 }
 refine one_ (i := 8) (N := some 51) #[true, true, true, true, true, true, true, true, true, false, false] rfl rfl (one_of HT_.out (by kernel_rfl)) (by decide) (fun K hK => ?_)
 refine goes_ Try.func13 (by kernel_rfl) rfl #[.agg #[.int .i64 a0_0, .int .i64 a0_1, .int .i64 a0_2, .slice A0_3 l0_3.length c0_3, .int .i64 a0_4, .int .i64 a0_5, .slice A0_6 l0_6.length c0_6]] (by rfl) rfl rfl (by (try simp only [List.map_toArray, List.map_cons, List.map_nil]); first | done | rfl | (simp only [List.length_drop, List.length_take]; rfl)) ?_
 with_reducible refine (interlockref02_Sound.calls k2 a0_0 a0_1 a0_2 _ _ l0_3 a0_4 a0_5 _ _ l0_6 t442 _ ?side1 ?side2 ?side3 ?side4 A42.out).mono ?_
 (case side1 => repeat (first | exact (Kd.C_below HR0_3.out HB.out) | (with_reducible refine Kd.C_alloc ?_ _) | (with_reducible refine Kd.C_drewN ?_ _) | (with_reducible refine Kd.C_drew ?_)))
 (case side2 => exact HC0_3.out)
 (case side3 => repeat (first | exact (Kd.C_below HR0_6.out HB.out) | (with_reducible refine Kd.C_alloc ?_ _) | (with_reducible refine Kd.C_drewN ?_ _) | (with_reducible refine Kd.C_drew ?_)))
 (case side4 => exact HC0_6.out)
 rintro e w47 ⟨rfl, hb⟩
 refine ⟨_, rfl, ?_⟩
 have n0_ := Aside0.mk (Kd.R_below (by (with_reducible repeat (first | apply Kd.R_alloc | apply Kd.R_drewN | apply Kd.R_drew)); exact HO433.out) hb)
 have n1_ := Aside0.mk (Kd.S_below (by (with_reducible repeat (first | apply Kd.S_alloc | apply Kd.S_drewN | apply Kd.S_drew)); exact HO438.out) hb)
 have n2_ := Aside0.mk (blk_below (g := gb423) (o := .cells #[.int .i64 a0_0, .int .i64 a0_1, .int .i64 a0_2, .slice A0_3 l0_3.length c0_3, .int .i64 a0_4, .int .i64 a0_5, .slice A0_6 l0_6.length c0_6] 26 (0, 0)) (by (with_reducible repeat (first | refine blk_drewN ?_ _ | refine blk_drew ?_ | refine blk_alloc ?_ _)); exact BK423.out) hb)
 have n3_ := Aside0.mk (blk_below (g := gb424) (o := .cells #[.int .u8 a6_0, .int .i64 a6_1, .int .i64 a6_2, .int .i64 a6_3] 30 (0, 0)) (by (with_reducible repeat (first | refine blk_drewN ?_ _ | refine blk_drew ?_ | refine blk_alloc ?_ _)); exact BK424.out) hb)
 have n4_ := Aside0.mk (blk_below (g := gb439) (o := .cells #[.int .i64 t428, .int .i64 t429, .int .i64 t430, .slice Ao37 t431.length co37, .int .i64 t434, .int .i64 t435, .slice Ao38 t436.length co38] 26 (0, 0)) (by (with_reducible repeat (first | refine blk_drewN ?_ _ | refine blk_drew ?_ | refine blk_alloc ?_ _)); exact BK439.out) hb)
 have n5_ := Aside0.mk (below_step (by repeat (first | (with_reducible first | exact HB.out | apply below_alloc | apply pw_below_drewN | apply below_drew1 | refine below_set ?_ GE423.out | refine below_set ?_ GE424.out | refine below_set ?_ GE439.out) | exact HB.out)) hb)
 clear HO433
 clear HO438
 clear BK423
 clear BK424
 clear BK439
 clear HB
 have HO433 := n0_
 have HO438 := n1_
 have BK423 := n2_
 have BK424 := n3_
 have BK439 := n4_
 have HB := n5_
 clear n0_ n1_ n2_ n3_ n4_ n5_
 (try clear hb)
 (try clear hb2)
 (try clear hk)
 (try clear hi)
 refine hK.out _ _ ⟨(blk_cell BK439.out 0).trans rfl, (blk_cell BK439.out 1).trans rfl, (blk_cell BK439.out 2).trans rfl, (blk_cell BK439.out 3).trans rfl, (blk_cell BK439.out 4).trans rfl, (blk_cell BK439.out 5).trans rfl, (blk_cell BK439.out 6).trans rfl, (blk_cell BK423.out 0).trans rfl, (blk_cell BK423.out 1).trans rfl, (blk_cell BK423.out 2).trans rfl, (blk_cell BK423.out 3).trans rfl, (blk_cell BK423.out 4).trans rfl, (blk_cell BK423.out 5).trans rfl, (blk_cell BK423.out 6).trans rfl⟩ (fun hHeld => ?_)
 clear hK K
 refine norm_ (a' := ?_) ?_ ?_
 rotate_left
 {
 show Act.put _ (some 51) _ = _
 simp only [Act.put, List.setIfInBounds_toArray, List.set_cons_zero, List.set_cons_succ, i64_w, i32_w]
 rfl
 }
 refine pure_ (i := 9) (N := some 52) (v := ?_) (a' := ?_) #[true, true, true, true, true, true, true, true, true, true, false] rfl rfl (any_of HT_.out (by kernel_rfl)) (fun _ _ _ h => h) (Or.inl ⟨by rfl, ?_⟩) ?_ ?_
 rotate_left
 {
 intro w'
 go_simp
 with_reducible rfl
 }
 rotate_left
 {
 simp only [Act.put, List.setIfInBounds_toArray, List.set_cons_zero, List.set_cons_succ, i64_w, i32_w]
 rfl
 }
 refine pure_ (i := 10) (N := some 53) (v := ?_) (a' := ?_) #[true, true, true, true, true, true, true, true, true, true, true] rfl rfl (any_of HT_.out (by kernel_rfl)) (fun _ _ _ h => h) (Or.inl ⟨by rfl, ?_⟩) ?_ ?_
 rotate_left
 {
 intro w'
 go_simp
 with_reducible rfl
 }
 rotate_left
 {
 simp only [Act.put, List.setIfInBounds_toArray, List.set_cons_zero, List.set_cons_succ, i64_w, i32_w]
 rfl
 }
 refine done_ (done_of HT_.out (by kernel_rfl)) ?_
 try go_wp2
 go_meet
 case rel => exact ⟨_, (((wrap64 (t441)) != t442)), (by first | rfl | (simp; done) | (simp [*]; done)), H', ⟨by have := HJ7.out; have := HK2.out; first | omega | exact Nat.le_refl _⟩, ⟨by (with_reducible repeat (first | apply Kd.R_alloc | apply Kd.R_drewN | apply Kd.R_drew)); exact HO433.out⟩, ⟨by (with_reducible repeat (first | apply Kd.S_alloc | apply Kd.S_drewN | apply Kd.S_drew)); exact HO438.out⟩, ⟨by (with_reducible repeat (first | refine blk_drewN ?_ _ | refine blk_drew ?_ | refine blk_alloc ?_ _)); exact BK423.out⟩, ⟨by (with_reducible repeat (first | refine blk_drewN ?_ _ | refine blk_drew ?_ | refine blk_alloc ?_ _)); exact BK424.out⟩, ⟨by (with_reducible repeat (first | refine blk_drewN ?_ _ | refine blk_drew ?_ | refine blk_alloc ?_ _)); exact BK439.out⟩, ⟨by repeat (first | (with_reducible first | exact HB.out | apply below_alloc | apply pw_below_drewN | apply below_drew1 | refine below_set ?_ GE423.out | refine below_set ?_ GE424.out | refine below_set ?_ GE439.out) | exact HB.out)⟩⟩
 }
 {
 rw [if_neg c40] at H
 have c40b0 : (t440 == 0) = false := beq_eq_false_iff_ne.mpr c40
 have c40b1 : (t440 != 0) = true := bne_iff_ne.mpr c40
 (first | rw [c40b0] | (simp only [i64_w, i32_w]; rw [c40b0]) | skip)
 have H' := Aside0.mk H
 clear H
 try go_wp2
 have n0_ : Aside0 (Kd.R (Kd.int .i64) 3 (((((((w33.setCell ⟨gb439, 0, none⟩ (.int .i64 t428)).setCell ⟨gb439, 1, none⟩ (.int .i64 t429)).setCell ⟨gb439, 2, none⟩ (.int .i64 t430)).setCell ⟨gb439, 3, none⟩ (.slice Ao37 t431.length co37)).setCell ⟨gb439, 4, none⟩ (.int .i64 t434)).setCell ⟨gb439, 5, none⟩ (.int .i64 t435)).setCell ⟨gb439, 6, none⟩ (.slice Ao38 t436.length co38)) w.heap.size (fun _ => True) (.slice Ao37 t431.length co37) t431) := ⟨by (with_reducible repeat (first | apply Kd.R_alloc | apply Kd.R_drewN | apply Kd.R_drew)); exact Kd.R_mono (Kd.R_far (p := ⟨gb439, 6, none⟩) (Kd.R_far (p := ⟨gb439, 5, none⟩) (Kd.R_far (p := ⟨gb439, 4, none⟩) (Kd.R_far (p := ⟨gb439, 3, none⟩) (Kd.R_far (p := ⟨gb439, 2, none⟩) (Kd.R_far (p := ⟨gb439, 1, none⟩) (Kd.R_far (p := ⟨gb439, 0, none⟩) (Kd.R_types HO433.out BK439.out (by decide)) (fun _ hk => hk.2) (.int .i64 t428)) (fun _ hk => hk.2) (.int .i64 t429)) (fun _ hk => hk.2) (.int .i64 t430)) (fun _ hk => hk.2) (.slice Ao37 t431.length co37)) (fun _ hk => hk.2) (.int .i64 t434)) (fun _ hk => hk.2) (.int .i64 t435)) (fun _ hk => hk.2) (.slice Ao38 t436.length co38)) (fun _ hk => trivial)⟩
 have n1_ : Aside0 (Kd.S (Kd.slice 30 k30) 28 (((((((w33.setCell ⟨gb439, 0, none⟩ (.int .i64 t428)).setCell ⟨gb439, 1, none⟩ (.int .i64 t429)).setCell ⟨gb439, 2, none⟩ (.int .i64 t430)).setCell ⟨gb439, 3, none⟩ (.slice Ao37 t431.length co37)).setCell ⟨gb439, 4, none⟩ (.int .i64 t434)).setCell ⟨gb439, 5, none⟩ (.int .i64 t435)).setCell ⟨gb439, 6, none⟩ (.slice Ao38 t436.length co38)) w.heap.size (fun k_ => k_ ≠ gb424) (.slice Ao38 t436.length co38) t436) := ⟨by (with_reducible repeat (first | apply Kd.S_alloc | apply Kd.S_drewN | apply Kd.S_drew)); exact Kd.S_mono (Kd.S_far (p := ⟨gb439, 6, none⟩) (Kd.S_far (p := ⟨gb439, 5, none⟩) (Kd.S_far (p := ⟨gb439, 4, none⟩) (Kd.S_far (p := ⟨gb439, 3, none⟩) (Kd.S_far (p := ⟨gb439, 2, none⟩) (Kd.S_far (p := ⟨gb439, 1, none⟩) (Kd.S_far (p := ⟨gb439, 0, none⟩) (Kd.S_types HO438.out BK439.out (by decide)) (fun _ hk => hk.2) (.int .i64 t428)) (fun _ hk => hk.2) (.int .i64 t429)) (fun _ hk => hk.2) (.int .i64 t430)) (fun _ hk => hk.2) (.slice Ao37 t431.length co37)) (fun _ hk => hk.2) (.int .i64 t434)) (fun _ hk => hk.2) (.int .i64 t435)) (fun _ hk => hk.2) (.slice Ao38 t436.length co38)) (fun _ hk => hk.1.2)⟩
 have n2_ : Aside0 ((((((((w33.setCell ⟨gb439, 0, none⟩ (.int .i64 t428)).setCell ⟨gb439, 1, none⟩ (.int .i64 t429)).setCell ⟨gb439, 2, none⟩ (.int .i64 t430)).setCell ⟨gb439, 3, none⟩ (.slice Ao37 t431.length co37)).setCell ⟨gb439, 4, none⟩ (.int .i64 t434)).setCell ⟨gb439, 5, none⟩ (.int .i64 t435)).setCell ⟨gb439, 6, none⟩ (.slice Ao38 t436.length co38)).heap[gb423]? = some (.cells #[.int .i64 a0_0, .int .i64 a0_1, .int .i64 a0_2, .slice A0_3 l0_3.length c0_3, .int .i64 a0_4, .int .i64 a0_5, .slice A0_6 l0_6.length c0_6] 26 (0, 0))) := ⟨by (with_reducible repeat (first | refine blk_drewN ?_ _ | refine blk_drew ?_ | refine blk_alloc ?_ _)); refine blk_far ?_ NB423_439.out _; (with_reducible repeat (first | refine blk_drewN ?_ _ | refine blk_drew ?_ | refine blk_alloc ?_ _)); refine blk_far ?_ NB423_439.out _; (with_reducible repeat (first | refine blk_drewN ?_ _ | refine blk_drew ?_ | refine blk_alloc ?_ _)); refine blk_far ?_ NB423_439.out _; (with_reducible repeat (first | refine blk_drewN ?_ _ | refine blk_drew ?_ | refine blk_alloc ?_ _)); refine blk_far ?_ NB423_439.out _; (with_reducible repeat (first | refine blk_drewN ?_ _ | refine blk_drew ?_ | refine blk_alloc ?_ _)); refine blk_far ?_ NB423_439.out _; (with_reducible repeat (first | refine blk_drewN ?_ _ | refine blk_drew ?_ | refine blk_alloc ?_ _)); refine blk_far ?_ NB423_439.out _; (with_reducible repeat (first | refine blk_drewN ?_ _ | refine blk_drew ?_ | refine blk_alloc ?_ _)); refine blk_far ?_ NB423_439.out _; (with_reducible repeat (first | refine blk_drewN ?_ _ | refine blk_drew ?_ | refine blk_alloc ?_ _)); exact BK423.out⟩
 have n3_ : Aside0 ((((((((w33.setCell ⟨gb439, 0, none⟩ (.int .i64 t428)).setCell ⟨gb439, 1, none⟩ (.int .i64 t429)).setCell ⟨gb439, 2, none⟩ (.int .i64 t430)).setCell ⟨gb439, 3, none⟩ (.slice Ao37 t431.length co37)).setCell ⟨gb439, 4, none⟩ (.int .i64 t434)).setCell ⟨gb439, 5, none⟩ (.int .i64 t435)).setCell ⟨gb439, 6, none⟩ (.slice Ao38 t436.length co38)).heap[gb424]? = some (.cells #[.int .u8 a6_0, .int .i64 a6_1, .int .i64 a6_2, .int .i64 a6_3] 30 (0, 0))) := ⟨by (with_reducible repeat (first | refine blk_drewN ?_ _ | refine blk_drew ?_ | refine blk_alloc ?_ _)); refine blk_far ?_ NB424_439.out _; (with_reducible repeat (first | refine blk_drewN ?_ _ | refine blk_drew ?_ | refine blk_alloc ?_ _)); refine blk_far ?_ NB424_439.out _; (with_reducible repeat (first | refine blk_drewN ?_ _ | refine blk_drew ?_ | refine blk_alloc ?_ _)); refine blk_far ?_ NB424_439.out _; (with_reducible repeat (first | refine blk_drewN ?_ _ | refine blk_drew ?_ | refine blk_alloc ?_ _)); refine blk_far ?_ NB424_439.out _; (with_reducible repeat (first | refine blk_drewN ?_ _ | refine blk_drew ?_ | refine blk_alloc ?_ _)); refine blk_far ?_ NB424_439.out _; (with_reducible repeat (first | refine blk_drewN ?_ _ | refine blk_drew ?_ | refine blk_alloc ?_ _)); refine blk_far ?_ NB424_439.out _; (with_reducible repeat (first | refine blk_drewN ?_ _ | refine blk_drew ?_ | refine blk_alloc ?_ _)); refine blk_far ?_ NB424_439.out _; (with_reducible repeat (first | refine blk_drewN ?_ _ | refine blk_drew ?_ | refine blk_alloc ?_ _)); exact BK424.out⟩
 have n4_ : Aside0 ((((((((w33.setCell ⟨gb439, 0, none⟩ (.int .i64 t428)).setCell ⟨gb439, 1, none⟩ (.int .i64 t429)).setCell ⟨gb439, 2, none⟩ (.int .i64 t430)).setCell ⟨gb439, 3, none⟩ (.slice Ao37 t431.length co37)).setCell ⟨gb439, 4, none⟩ (.int .i64 t434)).setCell ⟨gb439, 5, none⟩ (.int .i64 t435)).setCell ⟨gb439, 6, none⟩ (.slice Ao38 t436.length co38)).heap[gb439]? = some (.cells #[.int .i64 t428, .int .i64 t429, .int .i64 t430, .slice Ao37 t431.length co37, .int .i64 t434, .int .i64 t435, .slice Ao38 t436.length co38] 26 (0, 0))) := ⟨by (with_reducible repeat (first | refine blk_drewN ?_ _ | refine blk_drew ?_ | refine blk_alloc ?_ _)); refine blk_put (cs := #[.int .i64 t428, .int .i64 t429, .int .i64 t430, .slice Ao37 t431.length co37, .int .i64 t434, .int .i64 t435, .slice none 0 0]) ?_ 6 _ rfl; (with_reducible repeat (first | refine blk_drewN ?_ _ | refine blk_drew ?_ | refine blk_alloc ?_ _)); refine blk_put (cs := #[.int .i64 t428, .int .i64 t429, .int .i64 t430, .slice Ao37 t431.length co37, .int .i64 t434, .int .i64 0, .slice none 0 0]) ?_ 5 _ rfl; (with_reducible repeat (first | refine blk_drewN ?_ _ | refine blk_drew ?_ | refine blk_alloc ?_ _)); refine blk_put (cs := #[.int .i64 t428, .int .i64 t429, .int .i64 t430, .slice Ao37 t431.length co37, .int .i64 0, .int .i64 0, .slice none 0 0]) ?_ 4 _ rfl; (with_reducible repeat (first | refine blk_drewN ?_ _ | refine blk_drew ?_ | refine blk_alloc ?_ _)); refine blk_put (cs := #[.int .i64 t428, .int .i64 t429, .int .i64 t430, .slice none 0 0, .int .i64 0, .int .i64 0, .slice none 0 0]) ?_ 3 _ rfl; (with_reducible repeat (first | refine blk_drewN ?_ _ | refine blk_drew ?_ | refine blk_alloc ?_ _)); refine blk_put (cs := #[.int .i64 t428, .int .i64 t429, .int .i64 0, .slice none 0 0, .int .i64 0, .int .i64 0, .slice none 0 0]) ?_ 2 _ rfl; (with_reducible repeat (first | refine blk_drewN ?_ _ | refine blk_drew ?_ | refine blk_alloc ?_ _)); refine blk_put (cs := #[.int .i64 t428, .int .i64 0, .int .i64 0, .slice none 0 0, .int .i64 0, .int .i64 0, .slice none 0 0]) ?_ 1 _ rfl; (with_reducible repeat (first | refine blk_drewN ?_ _ | refine blk_drew ?_ | refine blk_alloc ?_ _)); refine blk_put (cs := #[.int .i64 0, .int .i64 0, .int .i64 0, .slice none 0 0, .int .i64 0, .int .i64 0, .slice none 0 0]) ?_ 0 _ rfl; (with_reducible repeat (first | refine blk_drewN ?_ _ | refine blk_drew ?_ | refine blk_alloc ?_ _)); exact BK439.out⟩
 have n5_ : Aside0 (Below w.heap.size w (((((((w33.setCell ⟨gb439, 0, none⟩ (.int .i64 t428)).setCell ⟨gb439, 1, none⟩ (.int .i64 t429)).setCell ⟨gb439, 2, none⟩ (.int .i64 t430)).setCell ⟨gb439, 3, none⟩ (.slice Ao37 t431.length co37)).setCell ⟨gb439, 4, none⟩ (.int .i64 t434)).setCell ⟨gb439, 5, none⟩ (.int .i64 t435)).setCell ⟨gb439, 6, none⟩ (.slice Ao38 t436.length co38))) := ⟨by repeat (first | (with_reducible first | exact HB.out | apply below_alloc | apply pw_below_drewN | apply below_drew1 | refine below_set ?_ GE423.out | refine below_set ?_ GE424.out | refine below_set ?_ GE439.out) | exact HB.out)⟩
 (try clear HO433)
 (try clear HO438)
 (try clear BK423)
 (try clear BK424)
 (try clear BK439)
 (try clear HB)
 generalize (((((((w33.setCell ⟨gb439, 0, none⟩ (.int .i64 t428)).setCell ⟨gb439, 1, none⟩ (.int .i64 t429)).setCell ⟨gb439, 2, none⟩ (.int .i64 t430)).setCell ⟨gb439, 3, none⟩ (.slice Ao37 t431.length co37)).setCell ⟨gb439, 4, none⟩ (.int .i64 t434)).setCell ⟨gb439, 5, none⟩ (.int .i64 t435)).setCell ⟨gb439, 6, none⟩ (.slice Ao38 t436.length co38)) = w48 at n0_ n1_ n2_ n3_ n4_ n5_ ⊢
 have HO433 := n0_
 have HO438 := n1_
 have BK423 := n2_
 have BK424 := n3_
 have BK439 := n4_
 have HB := n5_
 clear n0_ n1_ n2_ n3_ n4_ n5_
 have n0_ := Aside0.mk (Kd.R_drew HO433.out)
 have n1_ := Aside0.mk (Kd.S_drew HO438.out)
 have n2_ := Aside0.mk (blk_drew BK423.out)
 have n3_ := Aside0.mk (blk_drew BK424.out)
 have n4_ := Aside0.mk (blk_drew BK439.out)
 have n5_ := Aside0.mk (below_drew1 HB.out)
 clear HO433
 clear HO438
 clear BK423
 clear BK424
 clear BK439
 clear HB
 have HO433 := n0_
 have HO438 := n1_
 have BK423 := n2_
 have BK424 := n3_
 have BK439 := n4_
 have HB := n5_
 clear n0_ n1_ n2_ n3_ n4_ n5_
 refine start_ (n := 11) (S := fun w' => w'.cell? ⟨gb439, 0, none⟩ = some (.int .i64 t428) ∧ w'.cell? ⟨gb439, 1, none⟩ = some (.int .i64 t429) ∧ w'.cell? ⟨gb439, 2, none⟩ = some (.int .i64 t430) ∧ w'.cell? ⟨gb439, 3, none⟩ = some (.slice Ao37 t431.length co37) ∧ w'.cell? ⟨gb439, 4, none⟩ = some (.int .i64 t434) ∧ w'.cell? ⟨gb439, 5, none⟩ = some (.int .i64 t435) ∧ w'.cell? ⟨gb439, 6, none⟩ = some (.slice Ao38 t436.length co38)) (ds := []) #[false, false, false, false, false, false, false, false, false, false, false] (by kernel_rfl) rfl rfl ⟨(blk_cell BK439.out 0).trans rfl, (blk_cell BK439.out 1).trans rfl, (blk_cell BK439.out 2).trans rfl, (blk_cell BK439.out 3).trans rfl, (blk_cell BK439.out 4).trans rfl, (blk_cell BK439.out 5).trans rfl, (blk_cell BK439.out 6).trans rfl⟩ (fun hHeld => ?_); refine with_tabW interlocklaw02_IrSounds.tab9 interlocklaw02_IrSounds.bits9 (fun HT_ HW_ => ?_)
 generalize w48.drew = w49 at HO433 HO438 BK423 BK424 BK439 HB hHeld ⊢
 refine take_ (i := 0) (N := some 43) (v := ?_) (a' := ?_) #[true, false, false, false, false, false, false, false, false, false, false] rfl rfl (take_ofW HT_.out HW_.out (by kernel_rfl)) (fun _ _ _ h => h) (Or.inl ⟨by rfl, ?_⟩) hHeld ?_ ?_
 rotate_left
 {
 rintro w' ⟨s0, s1, s2, s3, s4, s5, s6⟩
 go_simp
 with_reducible rfl
 }
 rotate_left
 {
 simp only [Act.put, List.setIfInBounds_toArray, List.set_cons_zero, List.set_cons_succ, i64_w, i32_w]
 rfl
 }
 refine one_ (i := 1) (N := some 44) #[true, true, false, false, false, false, false, false, false, false, false] rfl rfl (one_of HT_.out (by kernel_rfl)) (by decide) (fun K hK => ?_)
 refine goes_ Try.func12 (by kernel_rfl) rfl #[.agg #[.int .i64 t428, .int .i64 t429, .int .i64 t430, .slice Ao37 t431.length co37, .int .i64 t434, .int .i64 t435, .slice Ao38 t436.length co38]] (by rfl) rfl rfl (by (try simp only [List.map_toArray, List.map_cons, List.map_nil]); first | done | rfl | (simp only [List.length_drop, List.length_take]; rfl)) ?_
 with_reducible refine (ir_Sound.calls t428 t429 t430 _ _ t431 t434 t435 _ _ t436 t440 _ ?side1 ?side2 ?side3 ?side4 A39.out).mono ?_
 (case side1 => repeat (first | exact (Kd.R_reads' HO433.out).2.2 | (with_reducible refine Kd.C_alloc ?_ _) | (with_reducible refine Kd.C_drewN ?_ _) | (with_reducible refine Kd.C_drew ?_)))
 (case side2 => exact (Kd.R_reads' HO433.out).2.1)
 (case side3 => repeat (first | exact (Kd.S_reads' HO438.out).2.2 | (with_reducible refine Kd.C_alloc ?_ _) | (with_reducible refine Kd.C_drewN ?_ _) | (with_reducible refine Kd.C_drew ?_)))
 (case side4 => exact (Kd.S_reads' HO438.out).2.1)
 rintro e w50 ⟨rfl, hb⟩
 refine ⟨_, rfl, ?_⟩
 have n0_ := Aside0.mk (Kd.R_below (by (with_reducible repeat (first | apply Kd.R_alloc | apply Kd.R_drewN | apply Kd.R_drew)); exact HO433.out) hb)
 have n1_ := Aside0.mk (Kd.S_below (by (with_reducible repeat (first | apply Kd.S_alloc | apply Kd.S_drewN | apply Kd.S_drew)); exact HO438.out) hb)
 have n2_ := Aside0.mk (blk_below (g := gb423) (o := .cells #[.int .i64 a0_0, .int .i64 a0_1, .int .i64 a0_2, .slice A0_3 l0_3.length c0_3, .int .i64 a0_4, .int .i64 a0_5, .slice A0_6 l0_6.length c0_6] 26 (0, 0)) (by (with_reducible repeat (first | refine blk_drewN ?_ _ | refine blk_drew ?_ | refine blk_alloc ?_ _)); exact BK423.out) hb)
 have n3_ := Aside0.mk (blk_below (g := gb424) (o := .cells #[.int .u8 a6_0, .int .i64 a6_1, .int .i64 a6_2, .int .i64 a6_3] 30 (0, 0)) (by (with_reducible repeat (first | refine blk_drewN ?_ _ | refine blk_drew ?_ | refine blk_alloc ?_ _)); exact BK424.out) hb)
 have n4_ := Aside0.mk (blk_below (g := gb439) (o := .cells #[.int .i64 t428, .int .i64 t429, .int .i64 t430, .slice Ao37 t431.length co37, .int .i64 t434, .int .i64 t435, .slice Ao38 t436.length co38] 26 (0, 0)) (by (with_reducible repeat (first | refine blk_drewN ?_ _ | refine blk_drew ?_ | refine blk_alloc ?_ _)); exact BK439.out) hb)
 have n5_ := Aside0.mk (below_step (by repeat (first | (with_reducible first | exact HB.out | apply below_alloc | apply pw_below_drewN | apply below_drew1 | refine below_set ?_ GE423.out | refine below_set ?_ GE424.out | refine below_set ?_ GE439.out) | exact HB.out)) hb)
 clear HO433
 clear HO438
 clear BK423
 clear BK424
 clear BK439
 clear HB
 have HO433 := n0_
 have HO438 := n1_
 have BK423 := n2_
 have BK424 := n3_
 have BK439 := n4_
 have HB := n5_
 clear n0_ n1_ n2_ n3_ n4_ n5_
 (try clear hb)
 (try clear hb2)
 (try clear hk)
 (try clear hi)
 refine hK.out _ _ ⟨(blk_cell BK439.out 0).trans rfl, (blk_cell BK439.out 1).trans rfl, (blk_cell BK439.out 2).trans rfl, (blk_cell BK439.out 3).trans rfl, (blk_cell BK439.out 4).trans rfl, (blk_cell BK439.out 5).trans rfl, (blk_cell BK439.out 6).trans rfl⟩ (fun hHeld => ?_)
 clear hK K
 refine norm_ (a' := ?_) ?_ ?_
 rotate_left
 {
 show Act.put _ (some 44) _ = _
 simp only [Act.put, List.setIfInBounds_toArray, List.set_cons_zero, List.set_cons_succ, i64_w, i32_w]
 rfl
 }
 refine pure_ (i := 2) (N := some 45) (v := ?_) (a' := ?_) #[true, true, true, false, false, false, false, false, false, false, false] rfl rfl (any_of HT_.out (by kernel_rfl)) (fun _ _ _ h => h) (Or.inl ⟨by rfl, ?_⟩) ?_ ?_
 rotate_left
 {
 intro w'
 go_simp
 with_reducible rfl
 }
 rotate_left
 {
 simp only [Act.put, List.setIfInBounds_toArray, List.set_cons_zero, List.set_cons_succ, i64_w, i32_w]
 rfl
 }
 refine pure_ (i := 3) (N := some 46) (v := ?_) (a' := ?_) #[true, true, true, true, false, false, false, false, false, false, false] rfl rfl (any_of HT_.out (by kernel_rfl)) (fun _ _ _ h => h) (Or.inl ⟨by rfl, ?_⟩) ?_ ?_
 rotate_left
 {
 intro w'
 go_simp
 with_reducible rfl
 }
 rotate_left
 {
 simp only [Act.put, List.setIfInBounds_toArray, List.set_cons_zero, List.set_cons_succ, i64_w, i32_w]
 rfl
 }
 refine pure_ (i := 4) (N := some 47) (v := undef) (a' := ?_) #[true, true, true, true, true, false, false, false, false, false, false] rfl rfl (any_of HT_.out (by kernel_rfl)) (fun _ _ _ h => h) (Or.inr ⟨by rfl, rfl⟩) ?_ ?_
 rotate_left
 {
 simp only [Act.put, List.setIfInBounds_toArray, List.set_cons_zero, List.set_cons_succ, i64_w, i32_w]
 rfl
 }
 refine pure_ (i := 5) (N := some 48) (v := undef) (a' := ?_) #[true, true, true, true, true, true, false, false, false, false, false] rfl rfl (any_of HT_.out (by kernel_rfl)) (fun _ _ _ h => h) (Or.inr ⟨by rfl, rfl⟩) ?_ ?_
 rotate_left
 {
 simp only [Act.put, List.setIfInBounds_toArray, List.set_cons_zero, List.set_cons_succ, i64_w, i32_w]
 rfl
 }
 refine pure_ (i := 6) (N := some 49) (v := undef) (a' := ?_) #[true, true, true, true, true, true, true, false, false, false, false] rfl rfl (any_of HT_.out (by kernel_rfl)) (fun _ _ _ h => h) (Or.inr ⟨by rfl, rfl⟩) ?_ ?_
 rotate_left
 {
 simp only [Act.put, List.setIfInBounds_toArray, List.set_cons_zero, List.set_cons_succ, i64_w, i32_w]
 rfl
 }
 refine pure_ (i := 7) (N := some 50) (v := undef) (a' := ?_) #[true, true, true, true, true, true, true, true, false, false, false] rfl rfl (any_of HT_.out (by kernel_rfl)) (fun _ _ _ h => h) (Or.inr ⟨by rfl, rfl⟩) ?_ ?_
 rotate_left
 {
 simp only [Act.put, List.setIfInBounds_toArray, List.set_cons_zero, List.set_cons_succ, i64_w, i32_w]
 rfl
 }
 refine pure_ (i := 8) (N := some 51) (v := undef) (a' := ?_) #[true, true, true, true, true, true, true, true, true, false, false] rfl rfl (any_of HT_.out (by kernel_rfl)) (fun _ _ _ h => h) (Or.inr ⟨by rfl, rfl⟩) ?_ ?_
 rotate_left
 {
 simp only [Act.put, List.setIfInBounds_toArray, List.set_cons_zero, List.set_cons_succ, i64_w, i32_w]
 rfl
 }
 refine pure_ (i := 9) (N := some 52) (v := undef) (a' := ?_) #[true, true, true, true, true, true, true, true, true, true, false] rfl rfl (any_of HT_.out (by kernel_rfl)) (fun _ _ _ h => h) (Or.inr ⟨by rfl, rfl⟩) ?_ ?_
 rotate_left
 {
 simp only [Act.put, List.setIfInBounds_toArray, List.set_cons_zero, List.set_cons_succ, i64_w, i32_w]
 rfl
 }
 refine pure_ (i := 10) (N := some 53) (v := ?_) (a' := ?_) #[true, true, true, true, true, true, true, true, true, true, true] rfl rfl (any_of HT_.out (by kernel_rfl)) (fun _ _ _ h => h) (Or.inl ⟨by rfl, ?_⟩) ?_ ?_
 rotate_left
 {
 intro w'
 go_simp
 with_reducible rfl
 }
 rotate_left
 {
 simp only [Act.put, List.setIfInBounds_toArray, List.set_cons_zero, List.set_cons_succ, i64_w, i32_w]
 rfl
 }
 refine done_ (done_of HT_.out (by kernel_rfl)) ?_
 try go_wp2
 go_meet
 case rel => exact ⟨_, (true), (by first | rfl | (simp; done) | (simp [*]; done)), H', ⟨by have := HJ7.out; have := HK2.out; first | omega | exact Nat.le_refl _⟩, ⟨by (with_reducible repeat (first | apply Kd.R_alloc | apply Kd.R_drewN | apply Kd.R_drew)); exact HO433.out⟩, ⟨by (with_reducible repeat (first | apply Kd.S_alloc | apply Kd.S_drewN | apply Kd.S_drew)); exact HO438.out⟩, ⟨by (with_reducible repeat (first | refine blk_drewN ?_ _ | refine blk_drew ?_ | refine blk_alloc ?_ _)); exact BK423.out⟩, ⟨by (with_reducible repeat (first | refine blk_drewN ?_ _ | refine blk_drew ?_ | refine blk_alloc ?_ _)); exact BK424.out⟩, ⟨by (with_reducible repeat (first | refine blk_drewN ?_ _ | refine blk_drew ?_ | refine blk_alloc ?_ _)); exact BK439.out⟩, ⟨by repeat (first | (with_reducible first | exact HB.out | apply below_alloc | apply pw_below_drewN | apply below_drew1 | refine below_set ?_ GE423.out | refine below_set ?_ GE424.out | refine below_set ?_ GE439.out) | exact HB.out)⟩⟩
 }
 )
 case rest => (
 clear HC29
 try clear c1
 try clear c2
 try clear p2
 try clear c3
 try clear c4
 try clear p4
 try clear q4
 try clear hx4
 try clear p6
 try clear c8
 try clear c10
 try clear c11
 try clear c11b0
 try clear c11b1
 try clear c12
 try clear c13
 try clear c15
 try clear c18
 try clear c21
 try clear c21b0
 try clear c22
 try clear c22b0
 try clear c23
 try clear c23b0
 try clear c23b1
 try clear c24
 try clear c26
 try clear c30
 try clear c34
 try clear c35
 try clear c40
 try clear c40b0
 try clear c40b1
 try clear c42
 try clear p42
 try clear q42
 try clear hx42
 try clear hcz13_0
 try clear hcz13_1
 try clear hcz13_2
 try clear hcz13_3
 try clear hcz13_4
 try clear hcz13_5
 try clear hcz13_6
 try clear hcz16_0
 try clear hcz16_1
 try clear hcz16_2
 try clear hcz16_3
 try clear hcz16_4
 try clear hcz16_5
 try clear hcz16_6
 try clear hcz25_0
 try clear hcz25_1
 try clear hcz25_2
 try clear hcz25_3
 try clear hcz25_4
 try clear hcz25_5
 try clear hcz25_6
 try clear hcz27_0
 try clear hcz27_1
 try clear hcz27_2
 try clear hcz27_3
 try clear hcz27_4
 try clear hcz27_5
 try clear hcz27_6
 try clear hcz31_0
 try clear hcz31_1
 try clear hcz31_2
 try clear hcz31_3
 try clear hcz31_4
 try clear hcz31_5
 try clear hcz31_6
 try clear hcz36_0
 try clear hcz36_1
 try clear hcz36_2
 try clear hcz36_3
 try clear hcz36_4
 try clear hcz36_5
 try clear hcz36_6
 try clear hfz13_0
 try clear hfz13_1
 try clear hfz13_2
 try clear hfz13_3
 try clear hfz13_4
 try clear hfz13_5
 try clear hfz13_6
 try clear hfz16_0
 try clear hfz16_1
 try clear hfz16_2
 try clear hfz16_3
 try clear hfz16_4
 try clear hfz16_5
 try clear hfz16_6
 try clear hfz25_0
 try clear hfz25_1
 try clear hfz25_2
 try clear hfz25_3
 try clear hfz25_4
 try clear hfz25_5
 try clear hfz25_6
 try clear hfz27_0
 try clear hfz27_1
 try clear hfz27_2
 try clear hfz27_3
 try clear hfz27_4
 try clear hfz27_5
 try clear hfz27_6
 try clear hfz31_0
 try clear hfz31_1
 try clear hfz31_2
 try clear hfz31_3
 try clear hfz31_4
 try clear hfz31_5
 try clear hfz31_6
 try clear hfz36_0
 try clear hfz36_1
 try clear hfz36_2
 try clear hfz36_3
 try clear hfz36_4
 try clear hfz36_5
 try clear hfz36_6
 try clear hx427_0
 try clear p2
 try clear p427
 try clear q427
 obtain ⟨kq, x53_28, rfl, HA, HJ28, HO_440003, HO_440006, BK423, BK424, BK439, HB⟩ := hcut
 cases kq with
 | zero => exact absurd HA.out (by simp [interlocklaw02_IrSounds.j2])
 | succ kj28 => (
 have H := HA.out
 clear HA
 simp only [interlocklaw02_IrSounds.j2] at H
 by_cases c51 : x53_28 = true
 {
 subst c51
 have H1 : (none) = some r := by rw [if_pos rfl] at H; exact H
 clear H
 have H := H1
 clear H1
 exact absurd H (by simp)
 }
 {
 replace c51 := Bool.eq_false_iff.mpr c51
 subst c51
 have H1 : (if (Int.tmod a2 9) = 0 then ((ir_Sound.f a5 t429 t430 t431 t434 t435 t436).bind fun t443 => ((interlockref02_Sound.f kj28 a5 t429 t430 t431 t434 t435 t436).bind fun t444 => (some ((wrap64 (t443)) == t444)))) else (if (Int.tmod a2 9) = 1 then ((ir_Sound.f t428 a5 t430 t431 t434 t435 t436).bind fun t445 => ((interlockref02_Sound.f kj28 t428 a5 t430 t431 t434 t435 t436).bind fun t446 => (some ((wrap64 (t445)) == t446)))) else (if (Int.tmod a2 9) = 2 then ((ir_Sound.f t428 t429 a5 t431 t434 t435 t436).bind fun t447 => ((interlockref02_Sound.f kj28 t428 t429 a5 t431 t434 t435 t436).bind fun t448 => (some ((wrap64 (t447)) == t448)))) else (if (Int.tmod a2 9) = 3 then ((ir_Sound.f t428 t429 t430 t431 a5 t435 t436).bind fun t449 => ((interlockref02_Sound.f kj28 t428 t429 t430 t431 a5 t435 t436).bind fun t450 => (some ((wrap64 (t449)) == t450)))) else (if (Int.tmod a2 9) = 4 then ((ir_Sound.f t428 t429 t430 t431 t434 a5 t436).bind fun t451 => ((interlockref02_Sound.f kj28 t428 t429 t430 t431 t434 a5 t436).bind fun t452 => (some ((wrap64 (t451)) == t452)))) else (if (Int.tmod a2 9) = 5 then (if t431.length < 17592186044416 then ((some (t431 ++ [a5] : List Int)).bind fun y453 => ((ir_Sound.f t428 t429 t430 y453 t434 t435 t436).bind fun t456 => ((interlockref02_Sound.f kj28 t428 t429 t430 y453 t434 t435 t436).bind fun t457 => (some ((wrap64 (t456)) == t457))))) else (none)) else (if (Int.tmod a2 9) = 6 then (if 0 ≤ (wrap64 (Int.tmod a4 70)) then (if (wrap64 (Int.tmod a4 70) : Int).toNat ≤ 8796093022208 then (if t436.length < 5864062014805 then ((some (t436 ++ [(List.replicate (wrap64 (Int.tmod a4 70) : Int).toNat z30)] : List (List (S30)))).bind fun y461 => ((ir_Sound.f t428 t429 t430 t431 t434 t435 y461).bind fun t464 => ((interlockref02_Sound.f kj28 t428 t429 t430 t431 t434 t435 y461).bind fun t465 => (some ((wrap64 (t464)) == t465))))) else (none)) else (none)) else (none)) else (if (t436.length : Int) = 0 then (none) else (if 0 ≤ (Int.tmod (wrap64 (a3)) (t436.length : Int)) then (if (Int.tmod (wrap64 (a3)) (t436.length : Int)) < (t436.length : Int) then (if ((rd_L4 t436 (Int.tmod (wrap64 (a3)) (t436.length : Int))).length : Int) > 0 then (if ((rd_L4 t436 (Int.tmod (wrap64 (a3)) (t436.length : Int))).length : Int) = 0 then (none) else (if 0 ≤ (Int.tmod (wrap64 (a4)) ((rd_L4 t436 (Int.tmod (wrap64 (a3)) (t436.length : Int))).length : Int)) then (if (Int.tmod (wrap64 (a4)) ((rd_L4 t436 (Int.tmod (wrap64 (a3)) (t436.length : Int))).length : Int)) < ((rd_L4 t436 (Int.tmod (wrap64 (a3)) (t436.length : Int))).length : Int) then ((some (t436.set ((Int.tmod (wrap64 (a3)) (t436.length : Int)) : Int).toNat ((rd_L4 t436 (Int.tmod (wrap64 (a3)) (t436.length : Int))).set ((Int.tmod (wrap64 (a4)) ((rd_L4 t436 (Int.tmod (wrap64 (a3)) (t436.length : Int))).length : Int)) : Int).toNat (⟨a6_0, a6_1, a6_2, a6_3⟩ : S30)) : List (List (S30)))).bind fun y471 => ((ir_Sound.f t428 t429 t430 t431 t434 t435 y471).bind fun t472 => ((interlockref02_Sound.f kj28 t428 t429 t430 t431 t434 t435 y471).bind fun t473 => (some ((wrap64 (t472)) == t473))))) else (none)) else (none))) else ((ir_Sound.f t428 t429 t430 t431 t434 t435 t436).bind fun t474 => ((interlockref02_Sound.f kj28 t428 t429 t430 t431 t434 t435 t436).bind fun t475 => (some ((wrap64 (t474)) == t475))))) else (none)) else (none)))))))))) = some r := by rw [if_neg (show ¬ (false = true) by decide)] at H; exact H
 clear H
 have H := H1
 clear H1
 by_cases c52 : (Int.tmod a2 9) = 0
 {
 rw [if_pos c52] at H
 have c52b0 : ((Int.tmod a2 9) == 0) = true := beq_iff_eq.mpr c52
 have c52b1 : ((Int.tmod a2 9) != 0) = false := bne_eq_false_iff_eq.mpr c52
 clear c52
 replace H := Option.bind_eq_some_iff.mp H
 obtain ⟨t443, A530, H⟩ := H
 replace H : ((interlockref02_Sound.f kj28 a5 t429 t430 t431 t434 t435 t436).bind fun t444 => (some ((wrap64 (t443)) == t444))) = some r := H
 have A53 := Aside0.mk A530
 clear A530
 replace H := Option.bind_eq_some_iff.mp H
 obtain ⟨t444, A540, H⟩ := H
 replace H : (some ((wrap64 (t443)) == t444)) = some r := H
 have A54 := Aside0.mk A540
 clear A540
 obtain rfl := Option.some.inj H
 have hnb55 := NB439_423.out
 have hnc55 := NB423_439.out
 have hnb56 := NB439_424.out
 have hnc56 := NB424_439.out
 have hcz57_0 : wc.cell? ⟨gb439, 0, none⟩ = some (.int .i64 t428) := (blk_cell BK439.out 0).trans rfl
 have hcz57_1 : wc.cell? ⟨gb439, 1, none⟩ = some (.int .i64 t429) := (blk_cell BK439.out 1).trans rfl
 have hcz57_2 : wc.cell? ⟨gb439, 2, none⟩ = some (.int .i64 t430) := (blk_cell BK439.out 2).trans rfl
 have hcz57_3 : wc.cell? ⟨gb439, 3, none⟩ = some (.slice Ao37 t431.length co37) := (blk_cell BK439.out 3).trans rfl
 have hcz57_4 : wc.cell? ⟨gb439, 4, none⟩ = some (.int .i64 t434) := (blk_cell BK439.out 4).trans rfl
 have hcz57_5 : wc.cell? ⟨gb439, 5, none⟩ = some (.int .i64 t435) := (blk_cell BK439.out 5).trans rfl
 have hcz57_6 : wc.cell? ⟨gb439, 6, none⟩ = some (.slice Ao38 t436.length co38) := (blk_cell BK439.out 6).trans rfl
 have hfz57_0 := blk_frozen BK439.out 0
 have hfz57_1 := blk_frozen BK439.out 1
 have hfz57_2 := blk_frozen BK439.out 2
 have hfz57_3 := blk_frozen BK439.out 3
 have hfz57_4 := blk_frozen BK439.out 4
 have hfz57_5 := blk_frozen BK439.out 5
 have hfz57_6 := blk_frozen BK439.out 6
 try go_wp2
 have n0_ : Aside0 (Kd.R (Kd.int .i64) 3 (wc.setCell ⟨gb439, 0, none⟩ (.int .i64 a5)) w.heap.size (fun _ => True) (.slice Ao37 t431.length co37) t431) := ⟨by (with_reducible repeat (first | apply Kd.R_alloc | apply Kd.R_drewN | apply Kd.R_drew)); exact Kd.R_mono (Kd.R_far (p := ⟨gb439, 0, none⟩) (Kd.R_types HO_440003.out BK439.out (by decide)) (fun _ hk => hk.2) (.int .i64 a5)) (fun _ hk => trivial)⟩
 have n1_ : Aside0 (Kd.S (Kd.slice 30 k30) 28 (wc.setCell ⟨gb439, 0, none⟩ (.int .i64 a5)) w.heap.size (fun k_ => k_ ≠ gb424) (.slice Ao38 t436.length co38) t436) := ⟨by (with_reducible repeat (first | apply Kd.S_alloc | apply Kd.S_drewN | apply Kd.S_drew)); exact Kd.S_mono (Kd.S_far (p := ⟨gb439, 0, none⟩) (Kd.S_types HO_440006.out BK439.out (by decide)) (fun _ hk => hk.2) (.int .i64 a5)) (fun _ hk => hk.1)⟩
 have n2_ : Aside0 ((wc.setCell ⟨gb439, 0, none⟩ (.int .i64 a5)).heap[gb423]? = some (.cells #[.int .i64 a0_0, .int .i64 a0_1, .int .i64 a0_2, .slice A0_3 l0_3.length c0_3, .int .i64 a0_4, .int .i64 a0_5, .slice A0_6 l0_6.length c0_6] 26 (0, 0))) := ⟨by (with_reducible repeat (first | refine blk_drewN ?_ _ | refine blk_drew ?_ | refine blk_alloc ?_ _)); refine blk_far ?_ NB423_439.out _; (with_reducible repeat (first | refine blk_drewN ?_ _ | refine blk_drew ?_ | refine blk_alloc ?_ _)); exact BK423.out⟩
 have n3_ : Aside0 ((wc.setCell ⟨gb439, 0, none⟩ (.int .i64 a5)).heap[gb424]? = some (.cells #[.int .u8 a6_0, .int .i64 a6_1, .int .i64 a6_2, .int .i64 a6_3] 30 (0, 0))) := ⟨by (with_reducible repeat (first | refine blk_drewN ?_ _ | refine blk_drew ?_ | refine blk_alloc ?_ _)); refine blk_far ?_ NB424_439.out _; (with_reducible repeat (first | refine blk_drewN ?_ _ | refine blk_drew ?_ | refine blk_alloc ?_ _)); exact BK424.out⟩
 have n4_ : Aside0 ((wc.setCell ⟨gb439, 0, none⟩ (.int .i64 a5)).heap[gb439]? = some (.cells #[.int .i64 a5, .int .i64 t429, .int .i64 t430, .slice Ao37 t431.length co37, .int .i64 t434, .int .i64 t435, .slice Ao38 t436.length co38] 26 (0, 0))) := ⟨by (with_reducible repeat (first | refine blk_drewN ?_ _ | refine blk_drew ?_ | refine blk_alloc ?_ _)); refine blk_put (cs := #[.int .i64 t428, .int .i64 t429, .int .i64 t430, .slice Ao37 t431.length co37, .int .i64 t434, .int .i64 t435, .slice Ao38 t436.length co38]) ?_ 0 _ rfl; (with_reducible repeat (first | refine blk_drewN ?_ _ | refine blk_drew ?_ | refine blk_alloc ?_ _)); exact BK439.out⟩
 have n5_ : Aside0 (Below w.heap.size w (wc.setCell ⟨gb439, 0, none⟩ (.int .i64 a5))) := ⟨by repeat (first | (with_reducible first | exact HB.out | apply below_alloc | apply pw_below_drewN | apply below_drew1 | refine below_set ?_ GE423.out | refine below_set ?_ GE424.out | refine below_set ?_ GE439.out) | exact HB.out)⟩
 (try clear HO_440003)
 (try clear HO_440006)
 (try clear BK423)
 (try clear BK424)
 (try clear BK439)
 (try clear HB)
 generalize (wc.setCell ⟨gb439, 0, none⟩ (.int .i64 a5)) = w58 at n0_ n1_ n2_ n3_ n4_ n5_ ⊢
 have HO_440003 := n0_
 have HO_440006 := n1_
 have BK423 := n2_
 have BK424 := n3_
 have BK439 := n4_
 have HB := n5_
 clear n0_ n1_ n2_ n3_ n4_ n5_
 have n0_ := Aside0.mk (Kd.R_drew HO_440003.out)
 have n1_ := Aside0.mk (Kd.S_drew HO_440006.out)
 have n2_ := Aside0.mk (blk_drew BK423.out)
 have n3_ := Aside0.mk (blk_drew BK424.out)
 have n4_ := Aside0.mk (blk_drew BK439.out)
 have n5_ := Aside0.mk (below_drew1 HB.out)
 clear HO_440003
 clear HO_440006
 clear BK423
 clear BK424
 clear BK439
 clear HB
 have HO_440003 := n0_
 have HO_440006 := n1_
 have BK423 := n2_
 have BK424 := n3_
 have BK439 := n4_
 have HB := n5_
 clear n0_ n1_ n2_ n3_ n4_ n5_
 refine start_ (n := 7) (S := fun w' => w'.cell? ⟨gb439, 0, none⟩ = some (.int .i64 a5) ∧ w'.cell? ⟨gb439, 1, none⟩ = some (.int .i64 t429) ∧ w'.cell? ⟨gb439, 2, none⟩ = some (.int .i64 t430) ∧ w'.cell? ⟨gb439, 3, none⟩ = some (.slice Ao37 t431.length co37) ∧ w'.cell? ⟨gb439, 4, none⟩ = some (.int .i64 t434) ∧ w'.cell? ⟨gb439, 5, none⟩ = some (.int .i64 t435) ∧ w'.cell? ⟨gb439, 6, none⟩ = some (.slice Ao38 t436.length co38)) (ds := []) #[false, false, false, false, false, false, false] (by kernel_rfl) rfl rfl ⟨(blk_cell BK439.out 0).trans rfl, (blk_cell BK439.out 1).trans rfl, (blk_cell BK439.out 2).trans rfl, (blk_cell BK439.out 3).trans rfl, (blk_cell BK439.out 4).trans rfl, (blk_cell BK439.out 5).trans rfl, (blk_cell BK439.out 6).trans rfl⟩ (fun hHeld => ?_)
 generalize w58.drew = w59 at HO_440003 HO_440006 BK423 BK424 BK439 HB hHeld ⊢
 refine take_ (i := 0) (N := some 124) (v := ?_) (a' := ?_) #[true, false, false, false, false, false, false] rfl rfl (by kernel_rfl) (fun _ _ _ h => h) (Or.inl ⟨by rfl, ?_⟩) hHeld ?_ ?_
 rotate_left
 {
 rintro w' ⟨s0, s1, s2, s3, s4, s5, s6⟩
 go_simp
 with_reducible rfl
 }
 rotate_left
 {
 simp only [Act.put, List.setIfInBounds_toArray, List.set_cons_zero, List.set_cons_succ, i64_w, i32_w]
 rfl
 }
 refine take_ (i := 3) (N := some 127) (v := ?_) (a' := ?_) #[true, false, false, true, false, false, false] rfl rfl (by kernel_rfl) (fun _ _ _ h => h) (Or.inl ⟨by rfl, ?_⟩) hHeld ?_ ?_
 rotate_left
 {
 rintro w' ⟨s0, s1, s2, s3, s4, s5, s6⟩
 go_simp
 with_reducible rfl
 }
 rotate_left
 {
 simp only [Act.put, List.setIfInBounds_toArray, List.set_cons_zero, List.set_cons_succ, i64_w, i32_w]
 rfl
 }
 refine one_ (i := 1) (N := some 125) #[true, true, false, true, false, false, false] rfl rfl (by kernel_rfl) (by decide) (fun K hK => ?_)
 refine goes_ Try.func12 (by kernel_rfl) rfl #[.agg #[.int .i64 a5, .int .i64 t429, .int .i64 t430, .slice Ao37 t431.length co37, .int .i64 t434, .int .i64 t435, .slice Ao38 t436.length co38]] (by rfl) rfl rfl (by (try simp only [List.map_toArray, List.map_cons, List.map_nil]); first | done | rfl | (simp only [List.length_drop, List.length_take]; rfl)) ?_
 with_reducible refine (ir_Sound.calls a5 t429 t430 _ _ t431 t434 t435 _ _ t436 t443 _ ?side1 ?side2 ?side3 ?side4 A53.out).mono ?_
 (case side1 => repeat (first | exact (Kd.R_reads' HO_440003.out).2.2 | (with_reducible refine Kd.C_alloc ?_ _) | (with_reducible refine Kd.C_drewN ?_ _) | (with_reducible refine Kd.C_drew ?_)))
 (case side2 => exact (Kd.R_reads' HO_440003.out).2.1)
 (case side3 => repeat (first | exact (Kd.S_reads' HO_440006.out).2.2 | (with_reducible refine Kd.C_alloc ?_ _) | (with_reducible refine Kd.C_drewN ?_ _) | (with_reducible refine Kd.C_drew ?_)))
 (case side4 => exact (Kd.S_reads' HO_440006.out).2.1)
 rintro e w60 ⟨rfl, hb⟩
 refine ⟨_, rfl, ?_⟩
 have n0_ := Aside0.mk (Kd.R_below (by (with_reducible repeat (first | apply Kd.R_alloc | apply Kd.R_drewN | apply Kd.R_drew)); exact HO_440003.out) hb)
 have n1_ := Aside0.mk (Kd.S_below (by (with_reducible repeat (first | apply Kd.S_alloc | apply Kd.S_drewN | apply Kd.S_drew)); exact HO_440006.out) hb)
 have n2_ := Aside0.mk (blk_below (g := gb423) (o := .cells #[.int .i64 a0_0, .int .i64 a0_1, .int .i64 a0_2, .slice A0_3 l0_3.length c0_3, .int .i64 a0_4, .int .i64 a0_5, .slice A0_6 l0_6.length c0_6] 26 (0, 0)) (by (with_reducible repeat (first | refine blk_drewN ?_ _ | refine blk_drew ?_ | refine blk_alloc ?_ _)); exact BK423.out) hb)
 have n3_ := Aside0.mk (blk_below (g := gb424) (o := .cells #[.int .u8 a6_0, .int .i64 a6_1, .int .i64 a6_2, .int .i64 a6_3] 30 (0, 0)) (by (with_reducible repeat (first | refine blk_drewN ?_ _ | refine blk_drew ?_ | refine blk_alloc ?_ _)); exact BK424.out) hb)
 have n4_ := Aside0.mk (blk_below (g := gb439) (o := .cells #[.int .i64 a5, .int .i64 t429, .int .i64 t430, .slice Ao37 t431.length co37, .int .i64 t434, .int .i64 t435, .slice Ao38 t436.length co38] 26 (0, 0)) (by (with_reducible repeat (first | refine blk_drewN ?_ _ | refine blk_drew ?_ | refine blk_alloc ?_ _)); exact BK439.out) hb)
 have n5_ := Aside0.mk (below_step (by repeat (first | (with_reducible first | exact HB.out | apply below_alloc | apply pw_below_drewN | apply below_drew1 | refine below_set ?_ GE423.out | refine below_set ?_ GE424.out | refine below_set ?_ GE439.out) | exact HB.out)) hb)
 clear HO_440003
 clear HO_440006
 clear BK423
 clear BK424
 clear BK439
 clear HB
 have HO_440003 := n0_
 have HO_440006 := n1_
 have BK423 := n2_
 have BK424 := n3_
 have BK439 := n4_
 have HB := n5_
 clear n0_ n1_ n2_ n3_ n4_ n5_
 (try clear hb)
 (try clear hb2)
 (try clear hk)
 (try clear hi)
 refine hK.out _ _ ⟨(blk_cell BK439.out 0).trans rfl, (blk_cell BK439.out 1).trans rfl, (blk_cell BK439.out 2).trans rfl, (blk_cell BK439.out 3).trans rfl, (blk_cell BK439.out 4).trans rfl, (blk_cell BK439.out 5).trans rfl, (blk_cell BK439.out 6).trans rfl⟩ (fun hHeld => ?_)
 clear hK K
 refine norm_ (a' := ?_) ?_ ?_
 rotate_left
 {
 show Act.put _ (some 125) _ = _
 simp only [Act.put, List.setIfInBounds_toArray, List.set_cons_zero, List.set_cons_succ, i64_w, i32_w]
 rfl
 }
 refine pure_ (i := 2) (N := some 126) (v := ?_) (a' := ?_) #[true, true, true, true, false, false, false] rfl rfl (by kernel_rfl) (fun _ _ _ h => h) (Or.inl ⟨by rfl, ?_⟩) ?_ ?_
 rotate_left
 {
 intro w'
 go_simp
 with_reducible rfl
 }
 rotate_left
 {
 simp only [Act.put, List.setIfInBounds_toArray, List.set_cons_zero, List.set_cons_succ, i64_w, i32_w]
 rfl
 }
 refine one_ (i := 4) (N := some 128) #[true, true, true, true, true, false, false] rfl rfl (by kernel_rfl) (by decide) (fun K hK => ?_)
 refine goes_ Try.func13 (by kernel_rfl) rfl #[.agg #[.int .i64 a5, .int .i64 t429, .int .i64 t430, .slice Ao37 t431.length co37, .int .i64 t434, .int .i64 t435, .slice Ao38 t436.length co38]] (by rfl) rfl rfl (by (try simp only [List.map_toArray, List.map_cons, List.map_nil]); first | done | rfl | (simp only [List.length_drop, List.length_take]; rfl)) ?_
 with_reducible refine (interlockref02_Sound.calls kj28 a5 t429 t430 _ _ t431 t434 t435 _ _ t436 t444 _ ?side1 ?side2 ?side3 ?side4 A54.out).mono ?_
 (case side1 => repeat (first | exact (Kd.R_reads' HO_440003.out).2.2 | (with_reducible refine Kd.C_alloc ?_ _) | (with_reducible refine Kd.C_drewN ?_ _) | (with_reducible refine Kd.C_drew ?_)))
 (case side2 => exact (Kd.R_reads' HO_440003.out).2.1)
 (case side3 => repeat (first | exact (Kd.S_reads' HO_440006.out).2.2 | (with_reducible refine Kd.C_alloc ?_ _) | (with_reducible refine Kd.C_drewN ?_ _) | (with_reducible refine Kd.C_drew ?_)))
 (case side4 => exact (Kd.S_reads' HO_440006.out).2.1)
 rintro e w61 ⟨rfl, hb⟩
 refine ⟨_, rfl, ?_⟩
 have n0_ := Aside0.mk (Kd.R_below (by (with_reducible repeat (first | apply Kd.R_alloc | apply Kd.R_drewN | apply Kd.R_drew)); exact HO_440003.out) hb)
 have n1_ := Aside0.mk (Kd.S_below (by (with_reducible repeat (first | apply Kd.S_alloc | apply Kd.S_drewN | apply Kd.S_drew)); exact HO_440006.out) hb)
 have n2_ := Aside0.mk (blk_below (g := gb423) (o := .cells #[.int .i64 a0_0, .int .i64 a0_1, .int .i64 a0_2, .slice A0_3 l0_3.length c0_3, .int .i64 a0_4, .int .i64 a0_5, .slice A0_6 l0_6.length c0_6] 26 (0, 0)) (by (with_reducible repeat (first | refine blk_drewN ?_ _ | refine blk_drew ?_ | refine blk_alloc ?_ _)); exact BK423.out) hb)
 have n3_ := Aside0.mk (blk_below (g := gb424) (o := .cells #[.int .u8 a6_0, .int .i64 a6_1, .int .i64 a6_2, .int .i64 a6_3] 30 (0, 0)) (by (with_reducible repeat (first | refine blk_drewN ?_ _ | refine blk_drew ?_ | refine blk_alloc ?_ _)); exact BK424.out) hb)
 have n4_ := Aside0.mk (blk_below (g := gb439) (o := .cells #[.int .i64 a5, .int .i64 t429, .int .i64 t430, .slice Ao37 t431.length co37, .int .i64 t434, .int .i64 t435, .slice Ao38 t436.length co38] 26 (0, 0)) (by (with_reducible repeat (first | refine blk_drewN ?_ _ | refine blk_drew ?_ | refine blk_alloc ?_ _)); exact BK439.out) hb)
 have n5_ := Aside0.mk (below_step (by repeat (first | (with_reducible first | exact HB.out | apply below_alloc | apply pw_below_drewN | apply below_drew1 | refine below_set ?_ GE423.out | refine below_set ?_ GE424.out | refine below_set ?_ GE439.out) | exact HB.out)) hb)
 clear HO_440003
 clear HO_440006
 clear BK423
 clear BK424
 clear BK439
 clear HB
 have HO_440003 := n0_
 have HO_440006 := n1_
 have BK423 := n2_
 have BK424 := n3_
 have BK439 := n4_
 have HB := n5_
 clear n0_ n1_ n2_ n3_ n4_ n5_
 (try clear hb)
 (try clear hb2)
 (try clear hk)
 (try clear hi)
 refine hK.out _ _ ⟨(blk_cell BK439.out 0).trans rfl, (blk_cell BK439.out 1).trans rfl, (blk_cell BK439.out 2).trans rfl, (blk_cell BK439.out 3).trans rfl, (blk_cell BK439.out 4).trans rfl, (blk_cell BK439.out 5).trans rfl, (blk_cell BK439.out 6).trans rfl⟩ (fun hHeld => ?_)
 clear hK K
 refine norm_ (a' := ?_) ?_ ?_
 rotate_left
 {
 show Act.put _ (some 128) _ = _
 simp only [Act.put, List.setIfInBounds_toArray, List.set_cons_zero, List.set_cons_succ, i64_w, i32_w]
 rfl
 }
 refine pure_ (i := 5) (N := some 129) (v := ?_) (a' := ?_) #[true, true, true, true, true, true, false] rfl rfl (by kernel_rfl) (fun _ _ _ h => h) (Or.inl ⟨by rfl, ?_⟩) ?_ ?_
 rotate_left
 {
 intro w'
 go_simp
 with_reducible rfl
 }
 rotate_left
 {
 simp only [Act.put, List.setIfInBounds_toArray, List.set_cons_zero, List.set_cons_succ, i64_w, i32_w]
 rfl
 }
 refine pure_ (i := 6) (N := some 14) (v := ?_) (a' := ?_) #[true, true, true, true, true, true, true] rfl rfl (by kernel_rfl) (fun _ _ _ h => h) (Or.inl ⟨by rfl, ?_⟩) ?_ ?_
 rotate_left
 {
 intro w'
 go_simp
 with_reducible rfl
 }
 rotate_left
 {
 simp only [Act.put, List.setIfInBounds_toArray, List.set_cons_zero, List.set_cons_succ, i64_w, i32_w]
 rfl
 }
 refine done_ (by kernel_rfl) ?_
 try go_wp2
 go_ret
 exact ⟨by first | rfl | (simp [errW_none, errW_some] <;> rfl) | (simp [*, errW_none, errW_some] <;> rfl), by repeat (first | (with_reducible first | exact HB.out | apply below_alloc | apply pw_below_drewN | apply below_drew1 | refine below_set ?_ GE423.out | refine below_set ?_ GE424.out | refine below_set ?_ GE439.out) | exact HB.out)⟩
 }
 {
 rw [if_neg c52] at H
 have c52b0 : ((Int.tmod a2 9) == 0) = false := beq_eq_false_iff_ne.mpr c52
 have c52b1 : ((Int.tmod a2 9) != 0) = true := bne_iff_ne.mpr c52
 by_cases c62 : (Int.tmod a2 9) = 1
 {
 rw [if_pos c62] at H
 have c62b0 : ((Int.tmod a2 9) == 1) = true := beq_iff_eq.mpr c62
 have c62b1 : ((Int.tmod a2 9) != 1) = false := bne_eq_false_iff_eq.mpr c62
 clear c62
 replace H := Option.bind_eq_some_iff.mp H
 obtain ⟨t445, A630, H⟩ := H
 replace H : ((interlockref02_Sound.f kj28 t428 a5 t430 t431 t434 t435 t436).bind fun t446 => (some ((wrap64 (t445)) == t446))) = some r := H
 have A63 := Aside0.mk A630
 clear A630
 replace H := Option.bind_eq_some_iff.mp H
 obtain ⟨t446, A640, H⟩ := H
 replace H : (some ((wrap64 (t445)) == t446)) = some r := H
 have A64 := Aside0.mk A640
 clear A640
 obtain rfl := Option.some.inj H
 have hnb65 := NB439_423.out
 have hnc65 := NB423_439.out
 have hnb66 := NB439_424.out
 have hnc66 := NB424_439.out
 have hcz67_0 : wc.cell? ⟨gb439, 0, none⟩ = some (.int .i64 t428) := (blk_cell BK439.out 0).trans rfl
 have hcz67_1 : wc.cell? ⟨gb439, 1, none⟩ = some (.int .i64 t429) := (blk_cell BK439.out 1).trans rfl
 have hcz67_2 : wc.cell? ⟨gb439, 2, none⟩ = some (.int .i64 t430) := (blk_cell BK439.out 2).trans rfl
 have hcz67_3 : wc.cell? ⟨gb439, 3, none⟩ = some (.slice Ao37 t431.length co37) := (blk_cell BK439.out 3).trans rfl
 have hcz67_4 : wc.cell? ⟨gb439, 4, none⟩ = some (.int .i64 t434) := (blk_cell BK439.out 4).trans rfl
 have hcz67_5 : wc.cell? ⟨gb439, 5, none⟩ = some (.int .i64 t435) := (blk_cell BK439.out 5).trans rfl
 have hcz67_6 : wc.cell? ⟨gb439, 6, none⟩ = some (.slice Ao38 t436.length co38) := (blk_cell BK439.out 6).trans rfl
 have hfz67_0 := blk_frozen BK439.out 0
 have hfz67_1 := blk_frozen BK439.out 1
 have hfz67_2 := blk_frozen BK439.out 2
 have hfz67_3 := blk_frozen BK439.out 3
 have hfz67_4 := blk_frozen BK439.out 4
 have hfz67_5 := blk_frozen BK439.out 5
 have hfz67_6 := blk_frozen BK439.out 6
 try go_wp2
 have n0_ : Aside0 (Kd.R (Kd.int .i64) 3 (wc.setCell ⟨gb439, 1, none⟩ (.int .i64 a5)) w.heap.size (fun _ => True) (.slice Ao37 t431.length co37) t431) := ⟨by (with_reducible repeat (first | apply Kd.R_alloc | apply Kd.R_drewN | apply Kd.R_drew)); exact Kd.R_mono (Kd.R_far (p := ⟨gb439, 1, none⟩) (Kd.R_types HO_440003.out BK439.out (by decide)) (fun _ hk => hk.2) (.int .i64 a5)) (fun _ hk => trivial)⟩
 have n1_ : Aside0 (Kd.S (Kd.slice 30 k30) 28 (wc.setCell ⟨gb439, 1, none⟩ (.int .i64 a5)) w.heap.size (fun k_ => k_ ≠ gb424) (.slice Ao38 t436.length co38) t436) := ⟨by (with_reducible repeat (first | apply Kd.S_alloc | apply Kd.S_drewN | apply Kd.S_drew)); exact Kd.S_mono (Kd.S_far (p := ⟨gb439, 1, none⟩) (Kd.S_types HO_440006.out BK439.out (by decide)) (fun _ hk => hk.2) (.int .i64 a5)) (fun _ hk => hk.1)⟩
 have n2_ : Aside0 ((wc.setCell ⟨gb439, 1, none⟩ (.int .i64 a5)).heap[gb423]? = some (.cells #[.int .i64 a0_0, .int .i64 a0_1, .int .i64 a0_2, .slice A0_3 l0_3.length c0_3, .int .i64 a0_4, .int .i64 a0_5, .slice A0_6 l0_6.length c0_6] 26 (0, 0))) := ⟨by (with_reducible repeat (first | refine blk_drewN ?_ _ | refine blk_drew ?_ | refine blk_alloc ?_ _)); refine blk_far ?_ NB423_439.out _; (with_reducible repeat (first | refine blk_drewN ?_ _ | refine blk_drew ?_ | refine blk_alloc ?_ _)); exact BK423.out⟩
 have n3_ : Aside0 ((wc.setCell ⟨gb439, 1, none⟩ (.int .i64 a5)).heap[gb424]? = some (.cells #[.int .u8 a6_0, .int .i64 a6_1, .int .i64 a6_2, .int .i64 a6_3] 30 (0, 0))) := ⟨by (with_reducible repeat (first | refine blk_drewN ?_ _ | refine blk_drew ?_ | refine blk_alloc ?_ _)); refine blk_far ?_ NB424_439.out _; (with_reducible repeat (first | refine blk_drewN ?_ _ | refine blk_drew ?_ | refine blk_alloc ?_ _)); exact BK424.out⟩
 have n4_ : Aside0 ((wc.setCell ⟨gb439, 1, none⟩ (.int .i64 a5)).heap[gb439]? = some (.cells #[.int .i64 t428, .int .i64 a5, .int .i64 t430, .slice Ao37 t431.length co37, .int .i64 t434, .int .i64 t435, .slice Ao38 t436.length co38] 26 (0, 0))) := ⟨by (with_reducible repeat (first | refine blk_drewN ?_ _ | refine blk_drew ?_ | refine blk_alloc ?_ _)); refine blk_put (cs := #[.int .i64 t428, .int .i64 t429, .int .i64 t430, .slice Ao37 t431.length co37, .int .i64 t434, .int .i64 t435, .slice Ao38 t436.length co38]) ?_ 1 _ rfl; (with_reducible repeat (first | refine blk_drewN ?_ _ | refine blk_drew ?_ | refine blk_alloc ?_ _)); exact BK439.out⟩
 have n5_ : Aside0 (Below w.heap.size w (wc.setCell ⟨gb439, 1, none⟩ (.int .i64 a5))) := ⟨by repeat (first | (with_reducible first | exact HB.out | apply below_alloc | apply pw_below_drewN | apply below_drew1 | refine below_set ?_ GE423.out | refine below_set ?_ GE424.out | refine below_set ?_ GE439.out) | exact HB.out)⟩
 (try clear HO_440003)
 (try clear HO_440006)
 (try clear BK423)
 (try clear BK424)
 (try clear BK439)
 (try clear HB)
 generalize (wc.setCell ⟨gb439, 1, none⟩ (.int .i64 a5)) = w68 at n0_ n1_ n2_ n3_ n4_ n5_ ⊢
 have HO_440003 := n0_
 have HO_440006 := n1_
 have BK423 := n2_
 have BK424 := n3_
 have BK439 := n4_
 have HB := n5_
 clear n0_ n1_ n2_ n3_ n4_ n5_
 have n0_ := Aside0.mk (Kd.R_drew HO_440003.out)
 have n1_ := Aside0.mk (Kd.S_drew HO_440006.out)
 have n2_ := Aside0.mk (blk_drew BK423.out)
 have n3_ := Aside0.mk (blk_drew BK424.out)
 have n4_ := Aside0.mk (blk_drew BK439.out)
 have n5_ := Aside0.mk (below_drew1 HB.out)
 clear HO_440003
 clear HO_440006
 clear BK423
 clear BK424
 clear BK439
 clear HB
 have HO_440003 := n0_
 have HO_440006 := n1_
 have BK423 := n2_
 have BK424 := n3_
 have BK439 := n4_
 have HB := n5_
 clear n0_ n1_ n2_ n3_ n4_ n5_
 refine start_ (n := 7) (S := fun w' => w'.cell? ⟨gb439, 0, none⟩ = some (.int .i64 t428) ∧ w'.cell? ⟨gb439, 1, none⟩ = some (.int .i64 a5) ∧ w'.cell? ⟨gb439, 2, none⟩ = some (.int .i64 t430) ∧ w'.cell? ⟨gb439, 3, none⟩ = some (.slice Ao37 t431.length co37) ∧ w'.cell? ⟨gb439, 4, none⟩ = some (.int .i64 t434) ∧ w'.cell? ⟨gb439, 5, none⟩ = some (.int .i64 t435) ∧ w'.cell? ⟨gb439, 6, none⟩ = some (.slice Ao38 t436.length co38)) (ds := []) #[false, false, false, false, false, false, false] (by kernel_rfl) rfl rfl ⟨(blk_cell BK439.out 0).trans rfl, (blk_cell BK439.out 1).trans rfl, (blk_cell BK439.out 2).trans rfl, (blk_cell BK439.out 3).trans rfl, (blk_cell BK439.out 4).trans rfl, (blk_cell BK439.out 5).trans rfl, (blk_cell BK439.out 6).trans rfl⟩ (fun hHeld => ?_)
 generalize w68.drew = w69 at HO_440003 HO_440006 BK423 BK424 BK439 HB hHeld ⊢
 refine take_ (i := 0) (N := some 124) (v := ?_) (a' := ?_) #[true, false, false, false, false, false, false] rfl rfl (by kernel_rfl) (fun _ _ _ h => h) (Or.inl ⟨by rfl, ?_⟩) hHeld ?_ ?_
 rotate_left
 {
 rintro w' ⟨s0, s1, s2, s3, s4, s5, s6⟩
 go_simp
 with_reducible rfl
 }
 rotate_left
 {
 simp only [Act.put, List.setIfInBounds_toArray, List.set_cons_zero, List.set_cons_succ, i64_w, i32_w]
 rfl
 }
 refine take_ (i := 3) (N := some 127) (v := ?_) (a' := ?_) #[true, false, false, true, false, false, false] rfl rfl (by kernel_rfl) (fun _ _ _ h => h) (Or.inl ⟨by rfl, ?_⟩) hHeld ?_ ?_
 rotate_left
 {
 rintro w' ⟨s0, s1, s2, s3, s4, s5, s6⟩
 go_simp
 with_reducible rfl
 }
 rotate_left
 {
 simp only [Act.put, List.setIfInBounds_toArray, List.set_cons_zero, List.set_cons_succ, i64_w, i32_w]
 rfl
 }
 refine one_ (i := 1) (N := some 125) #[true, true, false, true, false, false, false] rfl rfl (by kernel_rfl) (by decide) (fun K hK => ?_)
 refine goes_ Try.func12 (by kernel_rfl) rfl #[.agg #[.int .i64 t428, .int .i64 a5, .int .i64 t430, .slice Ao37 t431.length co37, .int .i64 t434, .int .i64 t435, .slice Ao38 t436.length co38]] (by rfl) rfl rfl (by (try simp only [List.map_toArray, List.map_cons, List.map_nil]); first | done | rfl | (simp only [List.length_drop, List.length_take]; rfl)) ?_
 with_reducible refine (ir_Sound.calls t428 a5 t430 _ _ t431 t434 t435 _ _ t436 t445 _ ?side1 ?side2 ?side3 ?side4 A63.out).mono ?_
 (case side1 => repeat (first | exact (Kd.R_reads' HO_440003.out).2.2 | (with_reducible refine Kd.C_alloc ?_ _) | (with_reducible refine Kd.C_drewN ?_ _) | (with_reducible refine Kd.C_drew ?_)))
 (case side2 => exact (Kd.R_reads' HO_440003.out).2.1)
 (case side3 => repeat (first | exact (Kd.S_reads' HO_440006.out).2.2 | (with_reducible refine Kd.C_alloc ?_ _) | (with_reducible refine Kd.C_drewN ?_ _) | (with_reducible refine Kd.C_drew ?_)))
 (case side4 => exact (Kd.S_reads' HO_440006.out).2.1)
 rintro e w70 ⟨rfl, hb⟩
 refine ⟨_, rfl, ?_⟩
 have n0_ := Aside0.mk (Kd.R_below (by (with_reducible repeat (first | apply Kd.R_alloc | apply Kd.R_drewN | apply Kd.R_drew)); exact HO_440003.out) hb)
 have n1_ := Aside0.mk (Kd.S_below (by (with_reducible repeat (first | apply Kd.S_alloc | apply Kd.S_drewN | apply Kd.S_drew)); exact HO_440006.out) hb)
 have n2_ := Aside0.mk (blk_below (g := gb423) (o := .cells #[.int .i64 a0_0, .int .i64 a0_1, .int .i64 a0_2, .slice A0_3 l0_3.length c0_3, .int .i64 a0_4, .int .i64 a0_5, .slice A0_6 l0_6.length c0_6] 26 (0, 0)) (by (with_reducible repeat (first | refine blk_drewN ?_ _ | refine blk_drew ?_ | refine blk_alloc ?_ _)); exact BK423.out) hb)
 have n3_ := Aside0.mk (blk_below (g := gb424) (o := .cells #[.int .u8 a6_0, .int .i64 a6_1, .int .i64 a6_2, .int .i64 a6_3] 30 (0, 0)) (by (with_reducible repeat (first | refine blk_drewN ?_ _ | refine blk_drew ?_ | refine blk_alloc ?_ _)); exact BK424.out) hb)
 have n4_ := Aside0.mk (blk_below (g := gb439) (o := .cells #[.int .i64 t428, .int .i64 a5, .int .i64 t430, .slice Ao37 t431.length co37, .int .i64 t434, .int .i64 t435, .slice Ao38 t436.length co38] 26 (0, 0)) (by (with_reducible repeat (first | refine blk_drewN ?_ _ | refine blk_drew ?_ | refine blk_alloc ?_ _)); exact BK439.out) hb)
 have n5_ := Aside0.mk (below_step (by repeat (first | (with_reducible first | exact HB.out | apply below_alloc | apply pw_below_drewN | apply below_drew1 | refine below_set ?_ GE423.out | refine below_set ?_ GE424.out | refine below_set ?_ GE439.out) | exact HB.out)) hb)
 clear HO_440003
 clear HO_440006
 clear BK423
 clear BK424
 clear BK439
 clear HB
 have HO_440003 := n0_
 have HO_440006 := n1_
 have BK423 := n2_
 have BK424 := n3_
 have BK439 := n4_
 have HB := n5_
 clear n0_ n1_ n2_ n3_ n4_ n5_
 (try clear hb)
 (try clear hb2)
 (try clear hk)
 (try clear hi)
 refine hK.out _ _ ⟨(blk_cell BK439.out 0).trans rfl, (blk_cell BK439.out 1).trans rfl, (blk_cell BK439.out 2).trans rfl, (blk_cell BK439.out 3).trans rfl, (blk_cell BK439.out 4).trans rfl, (blk_cell BK439.out 5).trans rfl, (blk_cell BK439.out 6).trans rfl⟩ (fun hHeld => ?_)
 clear hK K
 refine norm_ (a' := ?_) ?_ ?_
 rotate_left
 {
 show Act.put _ (some 125) _ = _
 simp only [Act.put, List.setIfInBounds_toArray, List.set_cons_zero, List.set_cons_succ, i64_w, i32_w]
 rfl
 }
 refine pure_ (i := 2) (N := some 126) (v := ?_) (a' := ?_) #[true, true, true, true, false, false, false] rfl rfl (by kernel_rfl) (fun _ _ _ h => h) (Or.inl ⟨by rfl, ?_⟩) ?_ ?_
 rotate_left
 {
 intro w'
 go_simp
 with_reducible rfl
 }
 rotate_left
 {
 simp only [Act.put, List.setIfInBounds_toArray, List.set_cons_zero, List.set_cons_succ, i64_w, i32_w]
 rfl
 }
 refine one_ (i := 4) (N := some 128) #[true, true, true, true, true, false, false] rfl rfl (by kernel_rfl) (by decide) (fun K hK => ?_)
 refine goes_ Try.func13 (by kernel_rfl) rfl #[.agg #[.int .i64 t428, .int .i64 a5, .int .i64 t430, .slice Ao37 t431.length co37, .int .i64 t434, .int .i64 t435, .slice Ao38 t436.length co38]] (by rfl) rfl rfl (by (try simp only [List.map_toArray, List.map_cons, List.map_nil]); first | done | rfl | (simp only [List.length_drop, List.length_take]; rfl)) ?_
 with_reducible refine (interlockref02_Sound.calls kj28 t428 a5 t430 _ _ t431 t434 t435 _ _ t436 t446 _ ?side1 ?side2 ?side3 ?side4 A64.out).mono ?_
 (case side1 => repeat (first | exact (Kd.R_reads' HO_440003.out).2.2 | (with_reducible refine Kd.C_alloc ?_ _) | (with_reducible refine Kd.C_drewN ?_ _) | (with_reducible refine Kd.C_drew ?_)))
 (case side2 => exact (Kd.R_reads' HO_440003.out).2.1)
 (case side3 => repeat (first | exact (Kd.S_reads' HO_440006.out).2.2 | (with_reducible refine Kd.C_alloc ?_ _) | (with_reducible refine Kd.C_drewN ?_ _) | (with_reducible refine Kd.C_drew ?_)))
 (case side4 => exact (Kd.S_reads' HO_440006.out).2.1)
 rintro e w71 ⟨rfl, hb⟩
 refine ⟨_, rfl, ?_⟩
 have n0_ := Aside0.mk (Kd.R_below (by (with_reducible repeat (first | apply Kd.R_alloc | apply Kd.R_drewN | apply Kd.R_drew)); exact HO_440003.out) hb)
 have n1_ := Aside0.mk (Kd.S_below (by (with_reducible repeat (first | apply Kd.S_alloc | apply Kd.S_drewN | apply Kd.S_drew)); exact HO_440006.out) hb)
 have n2_ := Aside0.mk (blk_below (g := gb423) (o := .cells #[.int .i64 a0_0, .int .i64 a0_1, .int .i64 a0_2, .slice A0_3 l0_3.length c0_3, .int .i64 a0_4, .int .i64 a0_5, .slice A0_6 l0_6.length c0_6] 26 (0, 0)) (by (with_reducible repeat (first | refine blk_drewN ?_ _ | refine blk_drew ?_ | refine blk_alloc ?_ _)); exact BK423.out) hb)
 have n3_ := Aside0.mk (blk_below (g := gb424) (o := .cells #[.int .u8 a6_0, .int .i64 a6_1, .int .i64 a6_2, .int .i64 a6_3] 30 (0, 0)) (by (with_reducible repeat (first | refine blk_drewN ?_ _ | refine blk_drew ?_ | refine blk_alloc ?_ _)); exact BK424.out) hb)
 have n4_ := Aside0.mk (blk_below (g := gb439) (o := .cells #[.int .i64 t428, .int .i64 a5, .int .i64 t430, .slice Ao37 t431.length co37, .int .i64 t434, .int .i64 t435, .slice Ao38 t436.length co38] 26 (0, 0)) (by (with_reducible repeat (first | refine blk_drewN ?_ _ | refine blk_drew ?_ | refine blk_alloc ?_ _)); exact BK439.out) hb)
 have n5_ := Aside0.mk (below_step (by repeat (first | (with_reducible first | exact HB.out | apply below_alloc | apply pw_below_drewN | apply below_drew1 | refine below_set ?_ GE423.out | refine below_set ?_ GE424.out | refine below_set ?_ GE439.out) | exact HB.out)) hb)
 clear HO_440003
 clear HO_440006
 clear BK423
 clear BK424
 clear BK439
 clear HB
 have HO_440003 := n0_
 have HO_440006 := n1_
 have BK423 := n2_
 have BK424 := n3_
 have BK439 := n4_
 have HB := n5_
 clear n0_ n1_ n2_ n3_ n4_ n5_
 (try clear hb)
 (try clear hb2)
 (try clear hk)
 (try clear hi)
 refine hK.out _ _ ⟨(blk_cell BK439.out 0).trans rfl, (blk_cell BK439.out 1).trans rfl, (blk_cell BK439.out 2).trans rfl, (blk_cell BK439.out 3).trans rfl, (blk_cell BK439.out 4).trans rfl, (blk_cell BK439.out 5).trans rfl, (blk_cell BK439.out 6).trans rfl⟩ (fun hHeld => ?_)
 clear hK K
 refine norm_ (a' := ?_) ?_ ?_
 rotate_left
 {
 show Act.put _ (some 128) _ = _
 simp only [Act.put, List.setIfInBounds_toArray, List.set_cons_zero, List.set_cons_succ, i64_w, i32_w]
 rfl
 }
 refine pure_ (i := 5) (N := some 129) (v := ?_) (a' := ?_) #[true, true, true, true, true, true, false] rfl rfl (by kernel_rfl) (fun _ _ _ h => h) (Or.inl ⟨by rfl, ?_⟩) ?_ ?_
 rotate_left
 {
 intro w'
 go_simp
 with_reducible rfl
 }
 rotate_left
 {
 simp only [Act.put, List.setIfInBounds_toArray, List.set_cons_zero, List.set_cons_succ, i64_w, i32_w]
 rfl
 }
 refine pure_ (i := 6) (N := some 14) (v := ?_) (a' := ?_) #[true, true, true, true, true, true, true] rfl rfl (by kernel_rfl) (fun _ _ _ h => h) (Or.inl ⟨by rfl, ?_⟩) ?_ ?_
 rotate_left
 {
 intro w'
 go_simp
 with_reducible rfl
 }
 rotate_left
 {
 simp only [Act.put, List.setIfInBounds_toArray, List.set_cons_zero, List.set_cons_succ, i64_w, i32_w]
 rfl
 }
 refine done_ (by kernel_rfl) ?_
 try go_wp2
 go_ret
 exact ⟨by first | rfl | (simp [errW_none, errW_some] <;> rfl) | (simp [*, errW_none, errW_some] <;> rfl), by repeat (first | (with_reducible first | exact HB.out | apply below_alloc | apply pw_below_drewN | apply below_drew1 | refine below_set ?_ GE423.out | refine below_set ?_ GE424.out | refine below_set ?_ GE439.out) | exact HB.out)⟩
 }
 {
 rw [if_neg c62] at H
 have c62b0 : ((Int.tmod a2 9) == 1) = false := beq_eq_false_iff_ne.mpr c62
 have c62b1 : ((Int.tmod a2 9) != 1) = true := bne_iff_ne.mpr c62
 by_cases c72 : (Int.tmod a2 9) = 2
 {
 rw [if_pos c72] at H
 have c72b0 : ((Int.tmod a2 9) == 2) = true := beq_iff_eq.mpr c72
 have c72b1 : ((Int.tmod a2 9) != 2) = false := bne_eq_false_iff_eq.mpr c72
 clear c72
 replace H := Option.bind_eq_some_iff.mp H
 obtain ⟨t447, A730, H⟩ := H
 replace H : ((interlockref02_Sound.f kj28 t428 t429 a5 t431 t434 t435 t436).bind fun t448 => (some ((wrap64 (t447)) == t448))) = some r := H
 have A73 := Aside0.mk A730
 clear A730
 replace H := Option.bind_eq_some_iff.mp H
 obtain ⟨t448, A740, H⟩ := H
 replace H : (some ((wrap64 (t447)) == t448)) = some r := H
 have A74 := Aside0.mk A740
 clear A740
 obtain rfl := Option.some.inj H
 have hnb75 := NB439_423.out
 have hnc75 := NB423_439.out
 have hnb76 := NB439_424.out
 have hnc76 := NB424_439.out
 have hcz77_0 : wc.cell? ⟨gb439, 0, none⟩ = some (.int .i64 t428) := (blk_cell BK439.out 0).trans rfl
 have hcz77_1 : wc.cell? ⟨gb439, 1, none⟩ = some (.int .i64 t429) := (blk_cell BK439.out 1).trans rfl
 have hcz77_2 : wc.cell? ⟨gb439, 2, none⟩ = some (.int .i64 t430) := (blk_cell BK439.out 2).trans rfl
 have hcz77_3 : wc.cell? ⟨gb439, 3, none⟩ = some (.slice Ao37 t431.length co37) := (blk_cell BK439.out 3).trans rfl
 have hcz77_4 : wc.cell? ⟨gb439, 4, none⟩ = some (.int .i64 t434) := (blk_cell BK439.out 4).trans rfl
 have hcz77_5 : wc.cell? ⟨gb439, 5, none⟩ = some (.int .i64 t435) := (blk_cell BK439.out 5).trans rfl
 have hcz77_6 : wc.cell? ⟨gb439, 6, none⟩ = some (.slice Ao38 t436.length co38) := (blk_cell BK439.out 6).trans rfl
 have hfz77_0 := blk_frozen BK439.out 0
 have hfz77_1 := blk_frozen BK439.out 1
 have hfz77_2 := blk_frozen BK439.out 2
 have hfz77_3 := blk_frozen BK439.out 3
 have hfz77_4 := blk_frozen BK439.out 4
 have hfz77_5 := blk_frozen BK439.out 5
 have hfz77_6 := blk_frozen BK439.out 6
 try go_wp2
 have n0_ : Aside0 (Kd.R (Kd.int .i64) 3 (wc.setCell ⟨gb439, 2, none⟩ (.int .i64 a5)) w.heap.size (fun _ => True) (.slice Ao37 t431.length co37) t431) := ⟨by (with_reducible repeat (first | apply Kd.R_alloc | apply Kd.R_drewN | apply Kd.R_drew)); exact Kd.R_mono (Kd.R_far (p := ⟨gb439, 2, none⟩) (Kd.R_types HO_440003.out BK439.out (by decide)) (fun _ hk => hk.2) (.int .i64 a5)) (fun _ hk => trivial)⟩
 have n1_ : Aside0 (Kd.S (Kd.slice 30 k30) 28 (wc.setCell ⟨gb439, 2, none⟩ (.int .i64 a5)) w.heap.size (fun k_ => k_ ≠ gb424) (.slice Ao38 t436.length co38) t436) := ⟨by (with_reducible repeat (first | apply Kd.S_alloc | apply Kd.S_drewN | apply Kd.S_drew)); exact Kd.S_mono (Kd.S_far (p := ⟨gb439, 2, none⟩) (Kd.S_types HO_440006.out BK439.out (by decide)) (fun _ hk => hk.2) (.int .i64 a5)) (fun _ hk => hk.1)⟩
 have n2_ : Aside0 ((wc.setCell ⟨gb439, 2, none⟩ (.int .i64 a5)).heap[gb423]? = some (.cells #[.int .i64 a0_0, .int .i64 a0_1, .int .i64 a0_2, .slice A0_3 l0_3.length c0_3, .int .i64 a0_4, .int .i64 a0_5, .slice A0_6 l0_6.length c0_6] 26 (0, 0))) := ⟨by (with_reducible repeat (first | refine blk_drewN ?_ _ | refine blk_drew ?_ | refine blk_alloc ?_ _)); refine blk_far ?_ NB423_439.out _; (with_reducible repeat (first | refine blk_drewN ?_ _ | refine blk_drew ?_ | refine blk_alloc ?_ _)); exact BK423.out⟩
 have n3_ : Aside0 ((wc.setCell ⟨gb439, 2, none⟩ (.int .i64 a5)).heap[gb424]? = some (.cells #[.int .u8 a6_0, .int .i64 a6_1, .int .i64 a6_2, .int .i64 a6_3] 30 (0, 0))) := ⟨by (with_reducible repeat (first | refine blk_drewN ?_ _ | refine blk_drew ?_ | refine blk_alloc ?_ _)); refine blk_far ?_ NB424_439.out _; (with_reducible repeat (first | refine blk_drewN ?_ _ | refine blk_drew ?_ | refine blk_alloc ?_ _)); exact BK424.out⟩
 have n4_ : Aside0 ((wc.setCell ⟨gb439, 2, none⟩ (.int .i64 a5)).heap[gb439]? = some (.cells #[.int .i64 t428, .int .i64 t429, .int .i64 a5, .slice Ao37 t431.length co37, .int .i64 t434, .int .i64 t435, .slice Ao38 t436.length co38] 26 (0, 0))) := ⟨by (with_reducible repeat (first | refine blk_drewN ?_ _ | refine blk_drew ?_ | refine blk_alloc ?_ _)); refine blk_put (cs := #[.int .i64 t428, .int .i64 t429, .int .i64 t430, .slice Ao37 t431.length co37, .int .i64 t434, .int .i64 t435, .slice Ao38 t436.length co38]) ?_ 2 _ rfl; (with_reducible repeat (first | refine blk_drewN ?_ _ | refine blk_drew ?_ | refine blk_alloc ?_ _)); exact BK439.out⟩
 have n5_ : Aside0 (Below w.heap.size w (wc.setCell ⟨gb439, 2, none⟩ (.int .i64 a5))) := ⟨by repeat (first | (with_reducible first | exact HB.out | apply below_alloc | apply pw_below_drewN | apply below_drew1 | refine below_set ?_ GE423.out | refine below_set ?_ GE424.out | refine below_set ?_ GE439.out) | exact HB.out)⟩
 (try clear HO_440003)
 (try clear HO_440006)
 (try clear BK423)
 (try clear BK424)
 (try clear BK439)
 (try clear HB)
 generalize (wc.setCell ⟨gb439, 2, none⟩ (.int .i64 a5)) = w78 at n0_ n1_ n2_ n3_ n4_ n5_ ⊢
 have HO_440003 := n0_
 have HO_440006 := n1_
 have BK423 := n2_
 have BK424 := n3_
 have BK439 := n4_
 have HB := n5_
 clear n0_ n1_ n2_ n3_ n4_ n5_
 have n0_ := Aside0.mk (Kd.R_drew HO_440003.out)
 have n1_ := Aside0.mk (Kd.S_drew HO_440006.out)
 have n2_ := Aside0.mk (blk_drew BK423.out)
 have n3_ := Aside0.mk (blk_drew BK424.out)
 have n4_ := Aside0.mk (blk_drew BK439.out)
 have n5_ := Aside0.mk (below_drew1 HB.out)
 clear HO_440003
 clear HO_440006
 clear BK423
 clear BK424
 clear BK439
 clear HB
 have HO_440003 := n0_
 have HO_440006 := n1_
 have BK423 := n2_
 have BK424 := n3_
 have BK439 := n4_
 have HB := n5_
 clear n0_ n1_ n2_ n3_ n4_ n5_
 refine start_ (n := 7) (S := fun w' => w'.cell? ⟨gb439, 0, none⟩ = some (.int .i64 t428) ∧ w'.cell? ⟨gb439, 1, none⟩ = some (.int .i64 t429) ∧ w'.cell? ⟨gb439, 2, none⟩ = some (.int .i64 a5) ∧ w'.cell? ⟨gb439, 3, none⟩ = some (.slice Ao37 t431.length co37) ∧ w'.cell? ⟨gb439, 4, none⟩ = some (.int .i64 t434) ∧ w'.cell? ⟨gb439, 5, none⟩ = some (.int .i64 t435) ∧ w'.cell? ⟨gb439, 6, none⟩ = some (.slice Ao38 t436.length co38)) (ds := []) #[false, false, false, false, false, false, false] (by kernel_rfl) rfl rfl ⟨(blk_cell BK439.out 0).trans rfl, (blk_cell BK439.out 1).trans rfl, (blk_cell BK439.out 2).trans rfl, (blk_cell BK439.out 3).trans rfl, (blk_cell BK439.out 4).trans rfl, (blk_cell BK439.out 5).trans rfl, (blk_cell BK439.out 6).trans rfl⟩ (fun hHeld => ?_)
 generalize w78.drew = w79 at HO_440003 HO_440006 BK423 BK424 BK439 HB hHeld ⊢
 refine take_ (i := 0) (N := some 124) (v := ?_) (a' := ?_) #[true, false, false, false, false, false, false] rfl rfl (by kernel_rfl) (fun _ _ _ h => h) (Or.inl ⟨by rfl, ?_⟩) hHeld ?_ ?_
 rotate_left
 {
 rintro w' ⟨s0, s1, s2, s3, s4, s5, s6⟩
 go_simp
 with_reducible rfl
 }
 rotate_left
 {
 simp only [Act.put, List.setIfInBounds_toArray, List.set_cons_zero, List.set_cons_succ, i64_w, i32_w]
 rfl
 }
 refine take_ (i := 3) (N := some 127) (v := ?_) (a' := ?_) #[true, false, false, true, false, false, false] rfl rfl (by kernel_rfl) (fun _ _ _ h => h) (Or.inl ⟨by rfl, ?_⟩) hHeld ?_ ?_
 rotate_left
 {
 rintro w' ⟨s0, s1, s2, s3, s4, s5, s6⟩
 go_simp
 with_reducible rfl
 }
 rotate_left
 {
 simp only [Act.put, List.setIfInBounds_toArray, List.set_cons_zero, List.set_cons_succ, i64_w, i32_w]
 rfl
 }
 refine one_ (i := 1) (N := some 125) #[true, true, false, true, false, false, false] rfl rfl (by kernel_rfl) (by decide) (fun K hK => ?_)
 refine goes_ Try.func12 (by kernel_rfl) rfl #[.agg #[.int .i64 t428, .int .i64 t429, .int .i64 a5, .slice Ao37 t431.length co37, .int .i64 t434, .int .i64 t435, .slice Ao38 t436.length co38]] (by rfl) rfl rfl (by (try simp only [List.map_toArray, List.map_cons, List.map_nil]); first | done | rfl | (simp only [List.length_drop, List.length_take]; rfl)) ?_
 with_reducible refine (ir_Sound.calls t428 t429 a5 _ _ t431 t434 t435 _ _ t436 t447 _ ?side1 ?side2 ?side3 ?side4 A73.out).mono ?_
 (case side1 => repeat (first | exact (Kd.R_reads' HO_440003.out).2.2 | (with_reducible refine Kd.C_alloc ?_ _) | (with_reducible refine Kd.C_drewN ?_ _) | (with_reducible refine Kd.C_drew ?_)))
 (case side2 => exact (Kd.R_reads' HO_440003.out).2.1)
 (case side3 => repeat (first | exact (Kd.S_reads' HO_440006.out).2.2 | (with_reducible refine Kd.C_alloc ?_ _) | (with_reducible refine Kd.C_drewN ?_ _) | (with_reducible refine Kd.C_drew ?_)))
 (case side4 => exact (Kd.S_reads' HO_440006.out).2.1)
 rintro e w80 ⟨rfl, hb⟩
 refine ⟨_, rfl, ?_⟩
 have n0_ := Aside0.mk (Kd.R_below (by (with_reducible repeat (first | apply Kd.R_alloc | apply Kd.R_drewN | apply Kd.R_drew)); exact HO_440003.out) hb)
 have n1_ := Aside0.mk (Kd.S_below (by (with_reducible repeat (first | apply Kd.S_alloc | apply Kd.S_drewN | apply Kd.S_drew)); exact HO_440006.out) hb)
 have n2_ := Aside0.mk (blk_below (g := gb423) (o := .cells #[.int .i64 a0_0, .int .i64 a0_1, .int .i64 a0_2, .slice A0_3 l0_3.length c0_3, .int .i64 a0_4, .int .i64 a0_5, .slice A0_6 l0_6.length c0_6] 26 (0, 0)) (by (with_reducible repeat (first | refine blk_drewN ?_ _ | refine blk_drew ?_ | refine blk_alloc ?_ _)); exact BK423.out) hb)
 have n3_ := Aside0.mk (blk_below (g := gb424) (o := .cells #[.int .u8 a6_0, .int .i64 a6_1, .int .i64 a6_2, .int .i64 a6_3] 30 (0, 0)) (by (with_reducible repeat (first | refine blk_drewN ?_ _ | refine blk_drew ?_ | refine blk_alloc ?_ _)); exact BK424.out) hb)
 have n4_ := Aside0.mk (blk_below (g := gb439) (o := .cells #[.int .i64 t428, .int .i64 t429, .int .i64 a5, .slice Ao37 t431.length co37, .int .i64 t434, .int .i64 t435, .slice Ao38 t436.length co38] 26 (0, 0)) (by (with_reducible repeat (first | refine blk_drewN ?_ _ | refine blk_drew ?_ | refine blk_alloc ?_ _)); exact BK439.out) hb)
 have n5_ := Aside0.mk (below_step (by repeat (first | (with_reducible first | exact HB.out | apply below_alloc | apply pw_below_drewN | apply below_drew1 | refine below_set ?_ GE423.out | refine below_set ?_ GE424.out | refine below_set ?_ GE439.out) | exact HB.out)) hb)
 clear HO_440003
 clear HO_440006
 clear BK423
 clear BK424
 clear BK439
 clear HB
 have HO_440003 := n0_
 have HO_440006 := n1_
 have BK423 := n2_
 have BK424 := n3_
 have BK439 := n4_
 have HB := n5_
 clear n0_ n1_ n2_ n3_ n4_ n5_
 (try clear hb)
 (try clear hb2)
 (try clear hk)
 (try clear hi)
 refine hK.out _ _ ⟨(blk_cell BK439.out 0).trans rfl, (blk_cell BK439.out 1).trans rfl, (blk_cell BK439.out 2).trans rfl, (blk_cell BK439.out 3).trans rfl, (blk_cell BK439.out 4).trans rfl, (blk_cell BK439.out 5).trans rfl, (blk_cell BK439.out 6).trans rfl⟩ (fun hHeld => ?_)
 clear hK K
 refine norm_ (a' := ?_) ?_ ?_
 rotate_left
 {
 show Act.put _ (some 125) _ = _
 simp only [Act.put, List.setIfInBounds_toArray, List.set_cons_zero, List.set_cons_succ, i64_w, i32_w]
 rfl
 }
 refine pure_ (i := 2) (N := some 126) (v := ?_) (a' := ?_) #[true, true, true, true, false, false, false] rfl rfl (by kernel_rfl) (fun _ _ _ h => h) (Or.inl ⟨by rfl, ?_⟩) ?_ ?_
 rotate_left
 {
 intro w'
 go_simp
 with_reducible rfl
 }
 rotate_left
 {
 simp only [Act.put, List.setIfInBounds_toArray, List.set_cons_zero, List.set_cons_succ, i64_w, i32_w]
 rfl
 }
 refine one_ (i := 4) (N := some 128) #[true, true, true, true, true, false, false] rfl rfl (by kernel_rfl) (by decide) (fun K hK => ?_)
 refine goes_ Try.func13 (by kernel_rfl) rfl #[.agg #[.int .i64 t428, .int .i64 t429, .int .i64 a5, .slice Ao37 t431.length co37, .int .i64 t434, .int .i64 t435, .slice Ao38 t436.length co38]] (by rfl) rfl rfl (by (try simp only [List.map_toArray, List.map_cons, List.map_nil]); first | done | rfl | (simp only [List.length_drop, List.length_take]; rfl)) ?_
 with_reducible refine (interlockref02_Sound.calls kj28 t428 t429 a5 _ _ t431 t434 t435 _ _ t436 t448 _ ?side1 ?side2 ?side3 ?side4 A74.out).mono ?_
 (case side1 => repeat (first | exact (Kd.R_reads' HO_440003.out).2.2 | (with_reducible refine Kd.C_alloc ?_ _) | (with_reducible refine Kd.C_drewN ?_ _) | (with_reducible refine Kd.C_drew ?_)))
 (case side2 => exact (Kd.R_reads' HO_440003.out).2.1)
 (case side3 => repeat (first | exact (Kd.S_reads' HO_440006.out).2.2 | (with_reducible refine Kd.C_alloc ?_ _) | (with_reducible refine Kd.C_drewN ?_ _) | (with_reducible refine Kd.C_drew ?_)))
 (case side4 => exact (Kd.S_reads' HO_440006.out).2.1)
 rintro e w81 ⟨rfl, hb⟩
 refine ⟨_, rfl, ?_⟩
 have n0_ := Aside0.mk (Kd.R_below (by (with_reducible repeat (first | apply Kd.R_alloc | apply Kd.R_drewN | apply Kd.R_drew)); exact HO_440003.out) hb)
 have n1_ := Aside0.mk (Kd.S_below (by (with_reducible repeat (first | apply Kd.S_alloc | apply Kd.S_drewN | apply Kd.S_drew)); exact HO_440006.out) hb)
 have n2_ := Aside0.mk (blk_below (g := gb423) (o := .cells #[.int .i64 a0_0, .int .i64 a0_1, .int .i64 a0_2, .slice A0_3 l0_3.length c0_3, .int .i64 a0_4, .int .i64 a0_5, .slice A0_6 l0_6.length c0_6] 26 (0, 0)) (by (with_reducible repeat (first | refine blk_drewN ?_ _ | refine blk_drew ?_ | refine blk_alloc ?_ _)); exact BK423.out) hb)
 have n3_ := Aside0.mk (blk_below (g := gb424) (o := .cells #[.int .u8 a6_0, .int .i64 a6_1, .int .i64 a6_2, .int .i64 a6_3] 30 (0, 0)) (by (with_reducible repeat (first | refine blk_drewN ?_ _ | refine blk_drew ?_ | refine blk_alloc ?_ _)); exact BK424.out) hb)
 have n4_ := Aside0.mk (blk_below (g := gb439) (o := .cells #[.int .i64 t428, .int .i64 t429, .int .i64 a5, .slice Ao37 t431.length co37, .int .i64 t434, .int .i64 t435, .slice Ao38 t436.length co38] 26 (0, 0)) (by (with_reducible repeat (first | refine blk_drewN ?_ _ | refine blk_drew ?_ | refine blk_alloc ?_ _)); exact BK439.out) hb)
 have n5_ := Aside0.mk (below_step (by repeat (first | (with_reducible first | exact HB.out | apply below_alloc | apply pw_below_drewN | apply below_drew1 | refine below_set ?_ GE423.out | refine below_set ?_ GE424.out | refine below_set ?_ GE439.out) | exact HB.out)) hb)
 clear HO_440003
 clear HO_440006
 clear BK423
 clear BK424
 clear BK439
 clear HB
 have HO_440003 := n0_
 have HO_440006 := n1_
 have BK423 := n2_
 have BK424 := n3_
 have BK439 := n4_
 have HB := n5_
 clear n0_ n1_ n2_ n3_ n4_ n5_
 (try clear hb)
 (try clear hb2)
 (try clear hk)
 (try clear hi)
 refine hK.out _ _ ⟨(blk_cell BK439.out 0).trans rfl, (blk_cell BK439.out 1).trans rfl, (blk_cell BK439.out 2).trans rfl, (blk_cell BK439.out 3).trans rfl, (blk_cell BK439.out 4).trans rfl, (blk_cell BK439.out 5).trans rfl, (blk_cell BK439.out 6).trans rfl⟩ (fun hHeld => ?_)
 clear hK K
 refine norm_ (a' := ?_) ?_ ?_
 rotate_left
 {
 show Act.put _ (some 128) _ = _
 simp only [Act.put, List.setIfInBounds_toArray, List.set_cons_zero, List.set_cons_succ, i64_w, i32_w]
 rfl
 }
 refine pure_ (i := 5) (N := some 129) (v := ?_) (a' := ?_) #[true, true, true, true, true, true, false] rfl rfl (by kernel_rfl) (fun _ _ _ h => h) (Or.inl ⟨by rfl, ?_⟩) ?_ ?_
 rotate_left
 {
 intro w'
 go_simp
 with_reducible rfl
 }
 rotate_left
 {
 simp only [Act.put, List.setIfInBounds_toArray, List.set_cons_zero, List.set_cons_succ, i64_w, i32_w]
 rfl
 }
 refine pure_ (i := 6) (N := some 14) (v := ?_) (a' := ?_) #[true, true, true, true, true, true, true] rfl rfl (by kernel_rfl) (fun _ _ _ h => h) (Or.inl ⟨by rfl, ?_⟩) ?_ ?_
 rotate_left
 {
 intro w'
 go_simp
 with_reducible rfl
 }
 rotate_left
 {
 simp only [Act.put, List.setIfInBounds_toArray, List.set_cons_zero, List.set_cons_succ, i64_w, i32_w]
 rfl
 }
 refine done_ (by kernel_rfl) ?_
 try go_wp2
 go_ret
 exact ⟨by first | rfl | (simp [errW_none, errW_some] <;> rfl) | (simp [*, errW_none, errW_some] <;> rfl), by repeat (first | (with_reducible first | exact HB.out | apply below_alloc | apply pw_below_drewN | apply below_drew1 | refine below_set ?_ GE423.out | refine below_set ?_ GE424.out | refine below_set ?_ GE439.out) | exact HB.out)⟩
 }
 {
 rw [if_neg c72] at H
 have c72b0 : ((Int.tmod a2 9) == 2) = false := beq_eq_false_iff_ne.mpr c72
 have c72b1 : ((Int.tmod a2 9) != 2) = true := bne_iff_ne.mpr c72
 by_cases c82 : (Int.tmod a2 9) = 3
 {
 rw [if_pos c82] at H
 have c82b0 : ((Int.tmod a2 9) == 3) = true := beq_iff_eq.mpr c82
 have c82b1 : ((Int.tmod a2 9) != 3) = false := bne_eq_false_iff_eq.mpr c82
 clear c82
 replace H := Option.bind_eq_some_iff.mp H
 obtain ⟨t449, A830, H⟩ := H
 replace H : ((interlockref02_Sound.f kj28 t428 t429 t430 t431 a5 t435 t436).bind fun t450 => (some ((wrap64 (t449)) == t450))) = some r := H
 have A83 := Aside0.mk A830
 clear A830
 replace H := Option.bind_eq_some_iff.mp H
 obtain ⟨t450, A840, H⟩ := H
 replace H : (some ((wrap64 (t449)) == t450)) = some r := H
 have A84 := Aside0.mk A840
 clear A840
 obtain rfl := Option.some.inj H
 have hnb85 := NB439_423.out
 have hnc85 := NB423_439.out
 have hnb86 := NB439_424.out
 have hnc86 := NB424_439.out
 have hcz87_0 : wc.cell? ⟨gb439, 0, none⟩ = some (.int .i64 t428) := (blk_cell BK439.out 0).trans rfl
 have hcz87_1 : wc.cell? ⟨gb439, 1, none⟩ = some (.int .i64 t429) := (blk_cell BK439.out 1).trans rfl
 have hcz87_2 : wc.cell? ⟨gb439, 2, none⟩ = some (.int .i64 t430) := (blk_cell BK439.out 2).trans rfl
 have hcz87_3 : wc.cell? ⟨gb439, 3, none⟩ = some (.slice Ao37 t431.length co37) := (blk_cell BK439.out 3).trans rfl
 have hcz87_4 : wc.cell? ⟨gb439, 4, none⟩ = some (.int .i64 t434) := (blk_cell BK439.out 4).trans rfl
 have hcz87_5 : wc.cell? ⟨gb439, 5, none⟩ = some (.int .i64 t435) := (blk_cell BK439.out 5).trans rfl
 have hcz87_6 : wc.cell? ⟨gb439, 6, none⟩ = some (.slice Ao38 t436.length co38) := (blk_cell BK439.out 6).trans rfl
 have hfz87_0 := blk_frozen BK439.out 0
 have hfz87_1 := blk_frozen BK439.out 1
 have hfz87_2 := blk_frozen BK439.out 2
 have hfz87_3 := blk_frozen BK439.out 3
 have hfz87_4 := blk_frozen BK439.out 4
 have hfz87_5 := blk_frozen BK439.out 5
 have hfz87_6 := blk_frozen BK439.out 6
 try go_wp2
 have n0_ : Aside0 (Kd.R (Kd.int .i64) 3 (wc.setCell ⟨gb439, 4, none⟩ (.int .i64 a5)) w.heap.size (fun _ => True) (.slice Ao37 t431.length co37) t431) := ⟨by (with_reducible repeat (first | apply Kd.R_alloc | apply Kd.R_drewN | apply Kd.R_drew)); exact Kd.R_mono (Kd.R_far (p := ⟨gb439, 4, none⟩) (Kd.R_types HO_440003.out BK439.out (by decide)) (fun _ hk => hk.2) (.int .i64 a5)) (fun _ hk => trivial)⟩
 have n1_ : Aside0 (Kd.S (Kd.slice 30 k30) 28 (wc.setCell ⟨gb439, 4, none⟩ (.int .i64 a5)) w.heap.size (fun k_ => k_ ≠ gb424) (.slice Ao38 t436.length co38) t436) := ⟨by (with_reducible repeat (first | apply Kd.S_alloc | apply Kd.S_drewN | apply Kd.S_drew)); exact Kd.S_mono (Kd.S_far (p := ⟨gb439, 4, none⟩) (Kd.S_types HO_440006.out BK439.out (by decide)) (fun _ hk => hk.2) (.int .i64 a5)) (fun _ hk => hk.1)⟩
 have n2_ : Aside0 ((wc.setCell ⟨gb439, 4, none⟩ (.int .i64 a5)).heap[gb423]? = some (.cells #[.int .i64 a0_0, .int .i64 a0_1, .int .i64 a0_2, .slice A0_3 l0_3.length c0_3, .int .i64 a0_4, .int .i64 a0_5, .slice A0_6 l0_6.length c0_6] 26 (0, 0))) := ⟨by (with_reducible repeat (first | refine blk_drewN ?_ _ | refine blk_drew ?_ | refine blk_alloc ?_ _)); refine blk_far ?_ NB423_439.out _; (with_reducible repeat (first | refine blk_drewN ?_ _ | refine blk_drew ?_ | refine blk_alloc ?_ _)); exact BK423.out⟩
 have n3_ : Aside0 ((wc.setCell ⟨gb439, 4, none⟩ (.int .i64 a5)).heap[gb424]? = some (.cells #[.int .u8 a6_0, .int .i64 a6_1, .int .i64 a6_2, .int .i64 a6_3] 30 (0, 0))) := ⟨by (with_reducible repeat (first | refine blk_drewN ?_ _ | refine blk_drew ?_ | refine blk_alloc ?_ _)); refine blk_far ?_ NB424_439.out _; (with_reducible repeat (first | refine blk_drewN ?_ _ | refine blk_drew ?_ | refine blk_alloc ?_ _)); exact BK424.out⟩
 have n4_ : Aside0 ((wc.setCell ⟨gb439, 4, none⟩ (.int .i64 a5)).heap[gb439]? = some (.cells #[.int .i64 t428, .int .i64 t429, .int .i64 t430, .slice Ao37 t431.length co37, .int .i64 a5, .int .i64 t435, .slice Ao38 t436.length co38] 26 (0, 0))) := ⟨by (with_reducible repeat (first | refine blk_drewN ?_ _ | refine blk_drew ?_ | refine blk_alloc ?_ _)); refine blk_put (cs := #[.int .i64 t428, .int .i64 t429, .int .i64 t430, .slice Ao37 t431.length co37, .int .i64 t434, .int .i64 t435, .slice Ao38 t436.length co38]) ?_ 4 _ rfl; (with_reducible repeat (first | refine blk_drewN ?_ _ | refine blk_drew ?_ | refine blk_alloc ?_ _)); exact BK439.out⟩
 have n5_ : Aside0 (Below w.heap.size w (wc.setCell ⟨gb439, 4, none⟩ (.int .i64 a5))) := ⟨by repeat (first | (with_reducible first | exact HB.out | apply below_alloc | apply pw_below_drewN | apply below_drew1 | refine below_set ?_ GE423.out | refine below_set ?_ GE424.out | refine below_set ?_ GE439.out) | exact HB.out)⟩
 (try clear HO_440003)
 (try clear HO_440006)
 (try clear BK423)
 (try clear BK424)
 (try clear BK439)
 (try clear HB)
 generalize (wc.setCell ⟨gb439, 4, none⟩ (.int .i64 a5)) = w88 at n0_ n1_ n2_ n3_ n4_ n5_ ⊢
 have HO_440003 := n0_
 have HO_440006 := n1_
 have BK423 := n2_
 have BK424 := n3_
 have BK439 := n4_
 have HB := n5_
 clear n0_ n1_ n2_ n3_ n4_ n5_
 have n0_ := Aside0.mk (Kd.R_drew HO_440003.out)
 have n1_ := Aside0.mk (Kd.S_drew HO_440006.out)
 have n2_ := Aside0.mk (blk_drew BK423.out)
 have n3_ := Aside0.mk (blk_drew BK424.out)
 have n4_ := Aside0.mk (blk_drew BK439.out)
 have n5_ := Aside0.mk (below_drew1 HB.out)
 clear HO_440003
 clear HO_440006
 clear BK423
 clear BK424
 clear BK439
 clear HB
 have HO_440003 := n0_
 have HO_440006 := n1_
 have BK423 := n2_
 have BK424 := n3_
 have BK439 := n4_
 have HB := n5_
 clear n0_ n1_ n2_ n3_ n4_ n5_
 refine start_ (n := 7) (S := fun w' => w'.cell? ⟨gb439, 0, none⟩ = some (.int .i64 t428) ∧ w'.cell? ⟨gb439, 1, none⟩ = some (.int .i64 t429) ∧ w'.cell? ⟨gb439, 2, none⟩ = some (.int .i64 t430) ∧ w'.cell? ⟨gb439, 3, none⟩ = some (.slice Ao37 t431.length co37) ∧ w'.cell? ⟨gb439, 4, none⟩ = some (.int .i64 a5) ∧ w'.cell? ⟨gb439, 5, none⟩ = some (.int .i64 t435) ∧ w'.cell? ⟨gb439, 6, none⟩ = some (.slice Ao38 t436.length co38)) (ds := []) #[false, false, false, false, false, false, false] (by kernel_rfl) rfl rfl ⟨(blk_cell BK439.out 0).trans rfl, (blk_cell BK439.out 1).trans rfl, (blk_cell BK439.out 2).trans rfl, (blk_cell BK439.out 3).trans rfl, (blk_cell BK439.out 4).trans rfl, (blk_cell BK439.out 5).trans rfl, (blk_cell BK439.out 6).trans rfl⟩ (fun hHeld => ?_)
 generalize w88.drew = w89 at HO_440003 HO_440006 BK423 BK424 BK439 HB hHeld ⊢
 refine take_ (i := 0) (N := some 124) (v := ?_) (a' := ?_) #[true, false, false, false, false, false, false] rfl rfl (by kernel_rfl) (fun _ _ _ h => h) (Or.inl ⟨by rfl, ?_⟩) hHeld ?_ ?_
 rotate_left
 {
 rintro w' ⟨s0, s1, s2, s3, s4, s5, s6⟩
 go_simp
 with_reducible rfl
 }
 rotate_left
 {
 simp only [Act.put, List.setIfInBounds_toArray, List.set_cons_zero, List.set_cons_succ, i64_w, i32_w]
 rfl
 }
 refine take_ (i := 3) (N := some 127) (v := ?_) (a' := ?_) #[true, false, false, true, false, false, false] rfl rfl (by kernel_rfl) (fun _ _ _ h => h) (Or.inl ⟨by rfl, ?_⟩) hHeld ?_ ?_
 rotate_left
 {
 rintro w' ⟨s0, s1, s2, s3, s4, s5, s6⟩
 go_simp
 with_reducible rfl
 }
 rotate_left
 {
 simp only [Act.put, List.setIfInBounds_toArray, List.set_cons_zero, List.set_cons_succ, i64_w, i32_w]
 rfl
 }
 refine one_ (i := 1) (N := some 125) #[true, true, false, true, false, false, false] rfl rfl (by kernel_rfl) (by decide) (fun K hK => ?_)
 refine goes_ Try.func12 (by kernel_rfl) rfl #[.agg #[.int .i64 t428, .int .i64 t429, .int .i64 t430, .slice Ao37 t431.length co37, .int .i64 a5, .int .i64 t435, .slice Ao38 t436.length co38]] (by rfl) rfl rfl (by (try simp only [List.map_toArray, List.map_cons, List.map_nil]); first | done | rfl | (simp only [List.length_drop, List.length_take]; rfl)) ?_
 with_reducible refine (ir_Sound.calls t428 t429 t430 _ _ t431 a5 t435 _ _ t436 t449 _ ?side1 ?side2 ?side3 ?side4 A83.out).mono ?_
 (case side1 => repeat (first | exact (Kd.R_reads' HO_440003.out).2.2 | (with_reducible refine Kd.C_alloc ?_ _) | (with_reducible refine Kd.C_drewN ?_ _) | (with_reducible refine Kd.C_drew ?_)))
 (case side2 => exact (Kd.R_reads' HO_440003.out).2.1)
 (case side3 => repeat (first | exact (Kd.S_reads' HO_440006.out).2.2 | (with_reducible refine Kd.C_alloc ?_ _) | (with_reducible refine Kd.C_drewN ?_ _) | (with_reducible refine Kd.C_drew ?_)))
 (case side4 => exact (Kd.S_reads' HO_440006.out).2.1)
 rintro e w90 ⟨rfl, hb⟩
 refine ⟨_, rfl, ?_⟩
 have n0_ := Aside0.mk (Kd.R_below (by (with_reducible repeat (first | apply Kd.R_alloc | apply Kd.R_drewN | apply Kd.R_drew)); exact HO_440003.out) hb)
 have n1_ := Aside0.mk (Kd.S_below (by (with_reducible repeat (first | apply Kd.S_alloc | apply Kd.S_drewN | apply Kd.S_drew)); exact HO_440006.out) hb)
 have n2_ := Aside0.mk (blk_below (g := gb423) (o := .cells #[.int .i64 a0_0, .int .i64 a0_1, .int .i64 a0_2, .slice A0_3 l0_3.length c0_3, .int .i64 a0_4, .int .i64 a0_5, .slice A0_6 l0_6.length c0_6] 26 (0, 0)) (by (with_reducible repeat (first | refine blk_drewN ?_ _ | refine blk_drew ?_ | refine blk_alloc ?_ _)); exact BK423.out) hb)
 have n3_ := Aside0.mk (blk_below (g := gb424) (o := .cells #[.int .u8 a6_0, .int .i64 a6_1, .int .i64 a6_2, .int .i64 a6_3] 30 (0, 0)) (by (with_reducible repeat (first | refine blk_drewN ?_ _ | refine blk_drew ?_ | refine blk_alloc ?_ _)); exact BK424.out) hb)
 have n4_ := Aside0.mk (blk_below (g := gb439) (o := .cells #[.int .i64 t428, .int .i64 t429, .int .i64 t430, .slice Ao37 t431.length co37, .int .i64 a5, .int .i64 t435, .slice Ao38 t436.length co38] 26 (0, 0)) (by (with_reducible repeat (first | refine blk_drewN ?_ _ | refine blk_drew ?_ | refine blk_alloc ?_ _)); exact BK439.out) hb)
 have n5_ := Aside0.mk (below_step (by repeat (first | (with_reducible first | exact HB.out | apply below_alloc | apply pw_below_drewN | apply below_drew1 | refine below_set ?_ GE423.out | refine below_set ?_ GE424.out | refine below_set ?_ GE439.out) | exact HB.out)) hb)
 clear HO_440003
 clear HO_440006
 clear BK423
 clear BK424
 clear BK439
 clear HB
 have HO_440003 := n0_
 have HO_440006 := n1_
 have BK423 := n2_
 have BK424 := n3_
 have BK439 := n4_
 have HB := n5_
 clear n0_ n1_ n2_ n3_ n4_ n5_
 (try clear hb)
 (try clear hb2)
 (try clear hk)
 (try clear hi)
 refine hK.out _ _ ⟨(blk_cell BK439.out 0).trans rfl, (blk_cell BK439.out 1).trans rfl, (blk_cell BK439.out 2).trans rfl, (blk_cell BK439.out 3).trans rfl, (blk_cell BK439.out 4).trans rfl, (blk_cell BK439.out 5).trans rfl, (blk_cell BK439.out 6).trans rfl⟩ (fun hHeld => ?_)
 clear hK K
 refine norm_ (a' := ?_) ?_ ?_
 rotate_left
 {
 show Act.put _ (some 125) _ = _
 simp only [Act.put, List.setIfInBounds_toArray, List.set_cons_zero, List.set_cons_succ, i64_w, i32_w]
 rfl
 }
 refine pure_ (i := 2) (N := some 126) (v := ?_) (a' := ?_) #[true, true, true, true, false, false, false] rfl rfl (by kernel_rfl) (fun _ _ _ h => h) (Or.inl ⟨by rfl, ?_⟩) ?_ ?_
 rotate_left
 {
 intro w'
 go_simp
 with_reducible rfl
 }
 rotate_left
 {
 simp only [Act.put, List.setIfInBounds_toArray, List.set_cons_zero, List.set_cons_succ, i64_w, i32_w]
 rfl
 }
 refine one_ (i := 4) (N := some 128) #[true, true, true, true, true, false, false] rfl rfl (by kernel_rfl) (by decide) (fun K hK => ?_)
 refine goes_ Try.func13 (by kernel_rfl) rfl #[.agg #[.int .i64 t428, .int .i64 t429, .int .i64 t430, .slice Ao37 t431.length co37, .int .i64 a5, .int .i64 t435, .slice Ao38 t436.length co38]] (by rfl) rfl rfl (by (try simp only [List.map_toArray, List.map_cons, List.map_nil]); first | done | rfl | (simp only [List.length_drop, List.length_take]; rfl)) ?_
 with_reducible refine (interlockref02_Sound.calls kj28 t428 t429 t430 _ _ t431 a5 t435 _ _ t436 t450 _ ?side1 ?side2 ?side3 ?side4 A84.out).mono ?_
 (case side1 => repeat (first | exact (Kd.R_reads' HO_440003.out).2.2 | (with_reducible refine Kd.C_alloc ?_ _) | (with_reducible refine Kd.C_drewN ?_ _) | (with_reducible refine Kd.C_drew ?_)))
 (case side2 => exact (Kd.R_reads' HO_440003.out).2.1)
 (case side3 => repeat (first | exact (Kd.S_reads' HO_440006.out).2.2 | (with_reducible refine Kd.C_alloc ?_ _) | (with_reducible refine Kd.C_drewN ?_ _) | (with_reducible refine Kd.C_drew ?_)))
 (case side4 => exact (Kd.S_reads' HO_440006.out).2.1)
 rintro e w91 ⟨rfl, hb⟩
 refine ⟨_, rfl, ?_⟩
 have n0_ := Aside0.mk (Kd.R_below (by (with_reducible repeat (first | apply Kd.R_alloc | apply Kd.R_drewN | apply Kd.R_drew)); exact HO_440003.out) hb)
 have n1_ := Aside0.mk (Kd.S_below (by (with_reducible repeat (first | apply Kd.S_alloc | apply Kd.S_drewN | apply Kd.S_drew)); exact HO_440006.out) hb)
 have n2_ := Aside0.mk (blk_below (g := gb423) (o := .cells #[.int .i64 a0_0, .int .i64 a0_1, .int .i64 a0_2, .slice A0_3 l0_3.length c0_3, .int .i64 a0_4, .int .i64 a0_5, .slice A0_6 l0_6.length c0_6] 26 (0, 0)) (by (with_reducible repeat (first | refine blk_drewN ?_ _ | refine blk_drew ?_ | refine blk_alloc ?_ _)); exact BK423.out) hb)
 have n3_ := Aside0.mk (blk_below (g := gb424) (o := .cells #[.int .u8 a6_0, .int .i64 a6_1, .int .i64 a6_2, .int .i64 a6_3] 30 (0, 0)) (by (with_reducible repeat (first | refine blk_drewN ?_ _ | refine blk_drew ?_ | refine blk_alloc ?_ _)); exact BK424.out) hb)
 have n4_ := Aside0.mk (blk_below (g := gb439) (o := .cells #[.int .i64 t428, .int .i64 t429, .int .i64 t430, .slice Ao37 t431.length co37, .int .i64 a5, .int .i64 t435, .slice Ao38 t436.length co38] 26 (0, 0)) (by (with_reducible repeat (first | refine blk_drewN ?_ _ | refine blk_drew ?_ | refine blk_alloc ?_ _)); exact BK439.out) hb)
 have n5_ := Aside0.mk (below_step (by repeat (first | (with_reducible first | exact HB.out | apply below_alloc | apply pw_below_drewN | apply below_drew1 | refine below_set ?_ GE423.out | refine below_set ?_ GE424.out | refine below_set ?_ GE439.out) | exact HB.out)) hb)
 clear HO_440003
 clear HO_440006
 clear BK423
 clear BK424
 clear BK439
 clear HB
 have HO_440003 := n0_
 have HO_440006 := n1_
 have BK423 := n2_
 have BK424 := n3_
 have BK439 := n4_
 have HB := n5_
 clear n0_ n1_ n2_ n3_ n4_ n5_
 (try clear hb)
 (try clear hb2)
 (try clear hk)
 (try clear hi)
 refine hK.out _ _ ⟨(blk_cell BK439.out 0).trans rfl, (blk_cell BK439.out 1).trans rfl, (blk_cell BK439.out 2).trans rfl, (blk_cell BK439.out 3).trans rfl, (blk_cell BK439.out 4).trans rfl, (blk_cell BK439.out 5).trans rfl, (blk_cell BK439.out 6).trans rfl⟩ (fun hHeld => ?_)
 clear hK K
 refine norm_ (a' := ?_) ?_ ?_
 rotate_left
 {
 show Act.put _ (some 128) _ = _
 simp only [Act.put, List.setIfInBounds_toArray, List.set_cons_zero, List.set_cons_succ, i64_w, i32_w]
 rfl
 }
 refine pure_ (i := 5) (N := some 129) (v := ?_) (a' := ?_) #[true, true, true, true, true, true, false] rfl rfl (by kernel_rfl) (fun _ _ _ h => h) (Or.inl ⟨by rfl, ?_⟩) ?_ ?_
 rotate_left
 {
 intro w'
 go_simp
 with_reducible rfl
 }
 rotate_left
 {
 simp only [Act.put, List.setIfInBounds_toArray, List.set_cons_zero, List.set_cons_succ, i64_w, i32_w]
 rfl
 }
 refine pure_ (i := 6) (N := some 14) (v := ?_) (a' := ?_) #[true, true, true, true, true, true, true] rfl rfl (by kernel_rfl) (fun _ _ _ h => h) (Or.inl ⟨by rfl, ?_⟩) ?_ ?_
 rotate_left
 {
 intro w'
 go_simp
 with_reducible rfl
 }
 rotate_left
 {
 simp only [Act.put, List.setIfInBounds_toArray, List.set_cons_zero, List.set_cons_succ, i64_w, i32_w]
 rfl
 }
 refine done_ (by kernel_rfl) ?_
 try go_wp2
 go_ret
 exact ⟨by first | rfl | (simp [errW_none, errW_some] <;> rfl) | (simp [*, errW_none, errW_some] <;> rfl), by repeat (first | (with_reducible first | exact HB.out | apply below_alloc | apply pw_below_drewN | apply below_drew1 | refine below_set ?_ GE423.out | refine below_set ?_ GE424.out | refine below_set ?_ GE439.out) | exact HB.out)⟩
 }
 {
 rw [if_neg c82] at H
 have c82b0 : ((Int.tmod a2 9) == 3) = false := beq_eq_false_iff_ne.mpr c82
 have c82b1 : ((Int.tmod a2 9) != 3) = true := bne_iff_ne.mpr c82
 by_cases c92 : (Int.tmod a2 9) = 4
 {
 rw [if_pos c92] at H
 have c92b0 : ((Int.tmod a2 9) == 4) = true := beq_iff_eq.mpr c92
 have c92b1 : ((Int.tmod a2 9) != 4) = false := bne_eq_false_iff_eq.mpr c92
 clear c92
 replace H := Option.bind_eq_some_iff.mp H
 obtain ⟨t451, A930, H⟩ := H
 replace H : ((interlockref02_Sound.f kj28 t428 t429 t430 t431 t434 a5 t436).bind fun t452 => (some ((wrap64 (t451)) == t452))) = some r := H
 have A93 := Aside0.mk A930
 clear A930
 replace H := Option.bind_eq_some_iff.mp H
 obtain ⟨t452, A940, H⟩ := H
 replace H : (some ((wrap64 (t451)) == t452)) = some r := H
 have A94 := Aside0.mk A940
 clear A940
 obtain rfl := Option.some.inj H
 have hnb95 := NB439_423.out
 have hnc95 := NB423_439.out
 have hnb96 := NB439_424.out
 have hnc96 := NB424_439.out
 have hcz97_0 : wc.cell? ⟨gb439, 0, none⟩ = some (.int .i64 t428) := (blk_cell BK439.out 0).trans rfl
 have hcz97_1 : wc.cell? ⟨gb439, 1, none⟩ = some (.int .i64 t429) := (blk_cell BK439.out 1).trans rfl
 have hcz97_2 : wc.cell? ⟨gb439, 2, none⟩ = some (.int .i64 t430) := (blk_cell BK439.out 2).trans rfl
 have hcz97_3 : wc.cell? ⟨gb439, 3, none⟩ = some (.slice Ao37 t431.length co37) := (blk_cell BK439.out 3).trans rfl
 have hcz97_4 : wc.cell? ⟨gb439, 4, none⟩ = some (.int .i64 t434) := (blk_cell BK439.out 4).trans rfl
 have hcz97_5 : wc.cell? ⟨gb439, 5, none⟩ = some (.int .i64 t435) := (blk_cell BK439.out 5).trans rfl
 have hcz97_6 : wc.cell? ⟨gb439, 6, none⟩ = some (.slice Ao38 t436.length co38) := (blk_cell BK439.out 6).trans rfl
 have hfz97_0 := blk_frozen BK439.out 0
 have hfz97_1 := blk_frozen BK439.out 1
 have hfz97_2 := blk_frozen BK439.out 2
 have hfz97_3 := blk_frozen BK439.out 3
 have hfz97_4 := blk_frozen BK439.out 4
 have hfz97_5 := blk_frozen BK439.out 5
 have hfz97_6 := blk_frozen BK439.out 6
 try go_wp2
 have n0_ : Aside0 (Kd.R (Kd.int .i64) 3 (wc.setCell ⟨gb439, 5, none⟩ (.int .i64 a5)) w.heap.size (fun _ => True) (.slice Ao37 t431.length co37) t431) := ⟨by (with_reducible repeat (first | apply Kd.R_alloc | apply Kd.R_drewN | apply Kd.R_drew)); exact Kd.R_mono (Kd.R_far (p := ⟨gb439, 5, none⟩) (Kd.R_types HO_440003.out BK439.out (by decide)) (fun _ hk => hk.2) (.int .i64 a5)) (fun _ hk => trivial)⟩
 have n1_ : Aside0 (Kd.S (Kd.slice 30 k30) 28 (wc.setCell ⟨gb439, 5, none⟩ (.int .i64 a5)) w.heap.size (fun k_ => k_ ≠ gb424) (.slice Ao38 t436.length co38) t436) := ⟨by (with_reducible repeat (first | apply Kd.S_alloc | apply Kd.S_drewN | apply Kd.S_drew)); exact Kd.S_mono (Kd.S_far (p := ⟨gb439, 5, none⟩) (Kd.S_types HO_440006.out BK439.out (by decide)) (fun _ hk => hk.2) (.int .i64 a5)) (fun _ hk => hk.1)⟩
 have n2_ : Aside0 ((wc.setCell ⟨gb439, 5, none⟩ (.int .i64 a5)).heap[gb423]? = some (.cells #[.int .i64 a0_0, .int .i64 a0_1, .int .i64 a0_2, .slice A0_3 l0_3.length c0_3, .int .i64 a0_4, .int .i64 a0_5, .slice A0_6 l0_6.length c0_6] 26 (0, 0))) := ⟨by (with_reducible repeat (first | refine blk_drewN ?_ _ | refine blk_drew ?_ | refine blk_alloc ?_ _)); refine blk_far ?_ NB423_439.out _; (with_reducible repeat (first | refine blk_drewN ?_ _ | refine blk_drew ?_ | refine blk_alloc ?_ _)); exact BK423.out⟩
 have n3_ : Aside0 ((wc.setCell ⟨gb439, 5, none⟩ (.int .i64 a5)).heap[gb424]? = some (.cells #[.int .u8 a6_0, .int .i64 a6_1, .int .i64 a6_2, .int .i64 a6_3] 30 (0, 0))) := ⟨by (with_reducible repeat (first | refine blk_drewN ?_ _ | refine blk_drew ?_ | refine blk_alloc ?_ _)); refine blk_far ?_ NB424_439.out _; (with_reducible repeat (first | refine blk_drewN ?_ _ | refine blk_drew ?_ | refine blk_alloc ?_ _)); exact BK424.out⟩
 have n4_ : Aside0 ((wc.setCell ⟨gb439, 5, none⟩ (.int .i64 a5)).heap[gb439]? = some (.cells #[.int .i64 t428, .int .i64 t429, .int .i64 t430, .slice Ao37 t431.length co37, .int .i64 t434, .int .i64 a5, .slice Ao38 t436.length co38] 26 (0, 0))) := ⟨by (with_reducible repeat (first | refine blk_drewN ?_ _ | refine blk_drew ?_ | refine blk_alloc ?_ _)); refine blk_put (cs := #[.int .i64 t428, .int .i64 t429, .int .i64 t430, .slice Ao37 t431.length co37, .int .i64 t434, .int .i64 t435, .slice Ao38 t436.length co38]) ?_ 5 _ rfl; (with_reducible repeat (first | refine blk_drewN ?_ _ | refine blk_drew ?_ | refine blk_alloc ?_ _)); exact BK439.out⟩
 have n5_ : Aside0 (Below w.heap.size w (wc.setCell ⟨gb439, 5, none⟩ (.int .i64 a5))) := ⟨by repeat (first | (with_reducible first | exact HB.out | apply below_alloc | apply pw_below_drewN | apply below_drew1 | refine below_set ?_ GE423.out | refine below_set ?_ GE424.out | refine below_set ?_ GE439.out) | exact HB.out)⟩
 (try clear HO_440003)
 (try clear HO_440006)
 (try clear BK423)
 (try clear BK424)
 (try clear BK439)
 (try clear HB)
 generalize (wc.setCell ⟨gb439, 5, none⟩ (.int .i64 a5)) = w98 at n0_ n1_ n2_ n3_ n4_ n5_ ⊢
 have HO_440003 := n0_
 have HO_440006 := n1_
 have BK423 := n2_
 have BK424 := n3_
 have BK439 := n4_
 have HB := n5_
 clear n0_ n1_ n2_ n3_ n4_ n5_
 have n0_ := Aside0.mk (Kd.R_drew HO_440003.out)
 have n1_ := Aside0.mk (Kd.S_drew HO_440006.out)
 have n2_ := Aside0.mk (blk_drew BK423.out)
 have n3_ := Aside0.mk (blk_drew BK424.out)
 have n4_ := Aside0.mk (blk_drew BK439.out)
 have n5_ := Aside0.mk (below_drew1 HB.out)
 clear HO_440003
 clear HO_440006
 clear BK423
 clear BK424
 clear BK439
 clear HB
 have HO_440003 := n0_
 have HO_440006 := n1_
 have BK423 := n2_
 have BK424 := n3_
 have BK439 := n4_
 have HB := n5_
 clear n0_ n1_ n2_ n3_ n4_ n5_
 refine start_ (n := 7) (S := fun w' => w'.cell? ⟨gb439, 0, none⟩ = some (.int .i64 t428) ∧ w'.cell? ⟨gb439, 1, none⟩ = some (.int .i64 t429) ∧ w'.cell? ⟨gb439, 2, none⟩ = some (.int .i64 t430) ∧ w'.cell? ⟨gb439, 3, none⟩ = some (.slice Ao37 t431.length co37) ∧ w'.cell? ⟨gb439, 4, none⟩ = some (.int .i64 t434) ∧ w'.cell? ⟨gb439, 5, none⟩ = some (.int .i64 a5) ∧ w'.cell? ⟨gb439, 6, none⟩ = some (.slice Ao38 t436.length co38)) (ds := []) #[false, false, false, false, false, false, false] (by kernel_rfl) rfl rfl ⟨(blk_cell BK439.out 0).trans rfl, (blk_cell BK439.out 1).trans rfl, (blk_cell BK439.out 2).trans rfl, (blk_cell BK439.out 3).trans rfl, (blk_cell BK439.out 4).trans rfl, (blk_cell BK439.out 5).trans rfl, (blk_cell BK439.out 6).trans rfl⟩ (fun hHeld => ?_)
 generalize w98.drew = w99 at HO_440003 HO_440006 BK423 BK424 BK439 HB hHeld ⊢
 refine take_ (i := 0) (N := some 124) (v := ?_) (a' := ?_) #[true, false, false, false, false, false, false] rfl rfl (by kernel_rfl) (fun _ _ _ h => h) (Or.inl ⟨by rfl, ?_⟩) hHeld ?_ ?_
 rotate_left
 {
 rintro w' ⟨s0, s1, s2, s3, s4, s5, s6⟩
 go_simp
 with_reducible rfl
 }
 rotate_left
 {
 simp only [Act.put, List.setIfInBounds_toArray, List.set_cons_zero, List.set_cons_succ, i64_w, i32_w]
 rfl
 }
 refine take_ (i := 3) (N := some 127) (v := ?_) (a' := ?_) #[true, false, false, true, false, false, false] rfl rfl (by kernel_rfl) (fun _ _ _ h => h) (Or.inl ⟨by rfl, ?_⟩) hHeld ?_ ?_
 rotate_left
 {
 rintro w' ⟨s0, s1, s2, s3, s4, s5, s6⟩
 go_simp
 with_reducible rfl
 }
 rotate_left
 {
 simp only [Act.put, List.setIfInBounds_toArray, List.set_cons_zero, List.set_cons_succ, i64_w, i32_w]
 rfl
 }
 refine one_ (i := 1) (N := some 125) #[true, true, false, true, false, false, false] rfl rfl (by kernel_rfl) (by decide) (fun K hK => ?_)
 refine goes_ Try.func12 (by kernel_rfl) rfl #[.agg #[.int .i64 t428, .int .i64 t429, .int .i64 t430, .slice Ao37 t431.length co37, .int .i64 t434, .int .i64 a5, .slice Ao38 t436.length co38]] (by rfl) rfl rfl (by (try simp only [List.map_toArray, List.map_cons, List.map_nil]); first | done | rfl | (simp only [List.length_drop, List.length_take]; rfl)) ?_
 with_reducible refine (ir_Sound.calls t428 t429 t430 _ _ t431 t434 a5 _ _ t436 t451 _ ?side1 ?side2 ?side3 ?side4 A93.out).mono ?_
 (case side1 => repeat (first | exact (Kd.R_reads' HO_440003.out).2.2 | (with_reducible refine Kd.C_alloc ?_ _) | (with_reducible refine Kd.C_drewN ?_ _) | (with_reducible refine Kd.C_drew ?_)))
 (case side2 => exact (Kd.R_reads' HO_440003.out).2.1)
 (case side3 => repeat (first | exact (Kd.S_reads' HO_440006.out).2.2 | (with_reducible refine Kd.C_alloc ?_ _) | (with_reducible refine Kd.C_drewN ?_ _) | (with_reducible refine Kd.C_drew ?_)))
 (case side4 => exact (Kd.S_reads' HO_440006.out).2.1)
 rintro e w100 ⟨rfl, hb⟩
 refine ⟨_, rfl, ?_⟩
 have n0_ := Aside0.mk (Kd.R_below (by (with_reducible repeat (first | apply Kd.R_alloc | apply Kd.R_drewN | apply Kd.R_drew)); exact HO_440003.out) hb)
 have n1_ := Aside0.mk (Kd.S_below (by (with_reducible repeat (first | apply Kd.S_alloc | apply Kd.S_drewN | apply Kd.S_drew)); exact HO_440006.out) hb)
 have n2_ := Aside0.mk (blk_below (g := gb423) (o := .cells #[.int .i64 a0_0, .int .i64 a0_1, .int .i64 a0_2, .slice A0_3 l0_3.length c0_3, .int .i64 a0_4, .int .i64 a0_5, .slice A0_6 l0_6.length c0_6] 26 (0, 0)) (by (with_reducible repeat (first | refine blk_drewN ?_ _ | refine blk_drew ?_ | refine blk_alloc ?_ _)); exact BK423.out) hb)
 have n3_ := Aside0.mk (blk_below (g := gb424) (o := .cells #[.int .u8 a6_0, .int .i64 a6_1, .int .i64 a6_2, .int .i64 a6_3] 30 (0, 0)) (by (with_reducible repeat (first | refine blk_drewN ?_ _ | refine blk_drew ?_ | refine blk_alloc ?_ _)); exact BK424.out) hb)
 have n4_ := Aside0.mk (blk_below (g := gb439) (o := .cells #[.int .i64 t428, .int .i64 t429, .int .i64 t430, .slice Ao37 t431.length co37, .int .i64 t434, .int .i64 a5, .slice Ao38 t436.length co38] 26 (0, 0)) (by (with_reducible repeat (first | refine blk_drewN ?_ _ | refine blk_drew ?_ | refine blk_alloc ?_ _)); exact BK439.out) hb)
 have n5_ := Aside0.mk (below_step (by repeat (first | (with_reducible first | exact HB.out | apply below_alloc | apply pw_below_drewN | apply below_drew1 | refine below_set ?_ GE423.out | refine below_set ?_ GE424.out | refine below_set ?_ GE439.out) | exact HB.out)) hb)
 clear HO_440003
 clear HO_440006
 clear BK423
 clear BK424
 clear BK439
 clear HB
 have HO_440003 := n0_
 have HO_440006 := n1_
 have BK423 := n2_
 have BK424 := n3_
 have BK439 := n4_
 have HB := n5_
 clear n0_ n1_ n2_ n3_ n4_ n5_
 (try clear hb)
 (try clear hb2)
 (try clear hk)
 (try clear hi)
 refine hK.out _ _ ⟨(blk_cell BK439.out 0).trans rfl, (blk_cell BK439.out 1).trans rfl, (blk_cell BK439.out 2).trans rfl, (blk_cell BK439.out 3).trans rfl, (blk_cell BK439.out 4).trans rfl, (blk_cell BK439.out 5).trans rfl, (blk_cell BK439.out 6).trans rfl⟩ (fun hHeld => ?_)
 clear hK K
 refine norm_ (a' := ?_) ?_ ?_
 rotate_left
 {
 show Act.put _ (some 125) _ = _
 simp only [Act.put, List.setIfInBounds_toArray, List.set_cons_zero, List.set_cons_succ, i64_w, i32_w]
 rfl
 }
 refine pure_ (i := 2) (N := some 126) (v := ?_) (a' := ?_) #[true, true, true, true, false, false, false] rfl rfl (by kernel_rfl) (fun _ _ _ h => h) (Or.inl ⟨by rfl, ?_⟩) ?_ ?_
 rotate_left
 {
 intro w'
 go_simp
 with_reducible rfl
 }
 rotate_left
 {
 simp only [Act.put, List.setIfInBounds_toArray, List.set_cons_zero, List.set_cons_succ, i64_w, i32_w]
 rfl
 }
 refine one_ (i := 4) (N := some 128) #[true, true, true, true, true, false, false] rfl rfl (by kernel_rfl) (by decide) (fun K hK => ?_)
 refine goes_ Try.func13 (by kernel_rfl) rfl #[.agg #[.int .i64 t428, .int .i64 t429, .int .i64 t430, .slice Ao37 t431.length co37, .int .i64 t434, .int .i64 a5, .slice Ao38 t436.length co38]] (by rfl) rfl rfl (by (try simp only [List.map_toArray, List.map_cons, List.map_nil]); first | done | rfl | (simp only [List.length_drop, List.length_take]; rfl)) ?_
 with_reducible refine (interlockref02_Sound.calls kj28 t428 t429 t430 _ _ t431 t434 a5 _ _ t436 t452 _ ?side1 ?side2 ?side3 ?side4 A94.out).mono ?_
 (case side1 => repeat (first | exact (Kd.R_reads' HO_440003.out).2.2 | (with_reducible refine Kd.C_alloc ?_ _) | (with_reducible refine Kd.C_drewN ?_ _) | (with_reducible refine Kd.C_drew ?_)))
 (case side2 => exact (Kd.R_reads' HO_440003.out).2.1)
 (case side3 => repeat (first | exact (Kd.S_reads' HO_440006.out).2.2 | (with_reducible refine Kd.C_alloc ?_ _) | (with_reducible refine Kd.C_drewN ?_ _) | (with_reducible refine Kd.C_drew ?_)))
 (case side4 => exact (Kd.S_reads' HO_440006.out).2.1)
 rintro e w101 ⟨rfl, hb⟩
 refine ⟨_, rfl, ?_⟩
 have n0_ := Aside0.mk (Kd.R_below (by (with_reducible repeat (first | apply Kd.R_alloc | apply Kd.R_drewN | apply Kd.R_drew)); exact HO_440003.out) hb)
 have n1_ := Aside0.mk (Kd.S_below (by (with_reducible repeat (first | apply Kd.S_alloc | apply Kd.S_drewN | apply Kd.S_drew)); exact HO_440006.out) hb)
 have n2_ := Aside0.mk (blk_below (g := gb423) (o := .cells #[.int .i64 a0_0, .int .i64 a0_1, .int .i64 a0_2, .slice A0_3 l0_3.length c0_3, .int .i64 a0_4, .int .i64 a0_5, .slice A0_6 l0_6.length c0_6] 26 (0, 0)) (by (with_reducible repeat (first | refine blk_drewN ?_ _ | refine blk_drew ?_ | refine blk_alloc ?_ _)); exact BK423.out) hb)
 have n3_ := Aside0.mk (blk_below (g := gb424) (o := .cells #[.int .u8 a6_0, .int .i64 a6_1, .int .i64 a6_2, .int .i64 a6_3] 30 (0, 0)) (by (with_reducible repeat (first | refine blk_drewN ?_ _ | refine blk_drew ?_ | refine blk_alloc ?_ _)); exact BK424.out) hb)
 have n4_ := Aside0.mk (blk_below (g := gb439) (o := .cells #[.int .i64 t428, .int .i64 t429, .int .i64 t430, .slice Ao37 t431.length co37, .int .i64 t434, .int .i64 a5, .slice Ao38 t436.length co38] 26 (0, 0)) (by (with_reducible repeat (first | refine blk_drewN ?_ _ | refine blk_drew ?_ | refine blk_alloc ?_ _)); exact BK439.out) hb)
 have n5_ := Aside0.mk (below_step (by repeat (first | (with_reducible first | exact HB.out | apply below_alloc | apply pw_below_drewN | apply below_drew1 | refine below_set ?_ GE423.out | refine below_set ?_ GE424.out | refine below_set ?_ GE439.out) | exact HB.out)) hb)
 clear HO_440003
 clear HO_440006
 clear BK423
 clear BK424
 clear BK439
 clear HB
 have HO_440003 := n0_
 have HO_440006 := n1_
 have BK423 := n2_
 have BK424 := n3_
 have BK439 := n4_
 have HB := n5_
 clear n0_ n1_ n2_ n3_ n4_ n5_
 (try clear hb)
 (try clear hb2)
 (try clear hk)
 (try clear hi)
 refine hK.out _ _ ⟨(blk_cell BK439.out 0).trans rfl, (blk_cell BK439.out 1).trans rfl, (blk_cell BK439.out 2).trans rfl, (blk_cell BK439.out 3).trans rfl, (blk_cell BK439.out 4).trans rfl, (blk_cell BK439.out 5).trans rfl, (blk_cell BK439.out 6).trans rfl⟩ (fun hHeld => ?_)
 clear hK K
 refine norm_ (a' := ?_) ?_ ?_
 rotate_left
 {
 show Act.put _ (some 128) _ = _
 simp only [Act.put, List.setIfInBounds_toArray, List.set_cons_zero, List.set_cons_succ, i64_w, i32_w]
 rfl
 }
 refine pure_ (i := 5) (N := some 129) (v := ?_) (a' := ?_) #[true, true, true, true, true, true, false] rfl rfl (by kernel_rfl) (fun _ _ _ h => h) (Or.inl ⟨by rfl, ?_⟩) ?_ ?_
 rotate_left
 {
 intro w'
 go_simp
 with_reducible rfl
 }
 rotate_left
 {
 simp only [Act.put, List.setIfInBounds_toArray, List.set_cons_zero, List.set_cons_succ, i64_w, i32_w]
 rfl
 }
 refine pure_ (i := 6) (N := some 14) (v := ?_) (a' := ?_) #[true, true, true, true, true, true, true] rfl rfl (by kernel_rfl) (fun _ _ _ h => h) (Or.inl ⟨by rfl, ?_⟩) ?_ ?_
 rotate_left
 {
 intro w'
 go_simp
 with_reducible rfl
 }
 rotate_left
 {
 simp only [Act.put, List.setIfInBounds_toArray, List.set_cons_zero, List.set_cons_succ, i64_w, i32_w]
 rfl
 }
 refine done_ (by kernel_rfl) ?_
 try go_wp2
 go_ret
 exact ⟨by first | rfl | (simp [errW_none, errW_some] <;> rfl) | (simp [*, errW_none, errW_some] <;> rfl), by repeat (first | (with_reducible first | exact HB.out | apply below_alloc | apply pw_below_drewN | apply below_drew1 | refine below_set ?_ GE423.out | refine below_set ?_ GE424.out | refine below_set ?_ GE439.out) | exact HB.out)⟩
 }
 {
 rw [if_neg c92] at H
 have c92b0 : ((Int.tmod a2 9) == 4) = false := beq_eq_false_iff_ne.mpr c92
 have c92b1 : ((Int.tmod a2 9) != 4) = true := bne_iff_ne.mpr c92
 by_cases c102 : (Int.tmod a2 9) = 5
 {
 rw [if_pos c102] at H
 have c102b0 : ((Int.tmod a2 9) == 5) = true := beq_iff_eq.mpr c102
 have c102b1 : ((Int.tmod a2 9) != 5) = false := bne_eq_false_iff_eq.mpr c102
 clear c102
 by_cases c103 : t431.length < 17592186044416
 {
 rw [if_pos c103] at H
 have LMc103 := Aside0.mk c103
 clear c103
 obtain ⟨y453, hy453⟩ : ∃ y_ : List Int, y_ = (t431 ++ [a5]) := ⟨_, rfl⟩
 replace H : ((ir_Sound.f t428 t429 t430 y453 t434 t435 t436).bind fun t456 => ((interlockref02_Sound.f kj28 t428 t429 t430 y453 t434 t435 t436).bind fun t457 => (some ((wrap64 (t456)) == t457)))) = some r := by first | (rw [hy453]; with_reducible exact H) | (have H2_ := (Option.bind_some _ _).symm.trans H; rw [hy453]; with_reducible exact H2_) | (have H2_ := (Option.bind_some _ _).symm.trans H; with_reducible exact H2_) | with_reducible exact H | (rw [hy453]; exact H) | exact H
 have Ny453 := Aside0.mk hy453
 clear hy453
 replace H := Option.bind_eq_some_iff.mp H
 obtain ⟨t456, A1040, H⟩ := H
 replace H : ((interlockref02_Sound.f kj28 t428 t429 t430 y453 t434 t435 t436).bind fun t457 => (some ((wrap64 (t456)) == t457))) = some r := H
 have A104 := Aside0.mk A1040
 clear A1040
 replace H := Option.bind_eq_some_iff.mp H
 obtain ⟨t457, A1050, H⟩ := H
 replace H : (some ((wrap64 (t456)) == t457)) = some r := H
 have A105 := Aside0.mk A1050
 clear A1050
 obtain rfl := Option.some.inj H
 have hnb106 := NB439_423.out
 have hnc106 := NB423_439.out
 have hnb107 := NB439_424.out
 have hnc107 := NB424_439.out
 have hcz108_0 : wc.cell? ⟨gb439, 0, none⟩ = some (.int .i64 t428) := (blk_cell BK439.out 0).trans rfl
 have hcz108_1 : wc.cell? ⟨gb439, 1, none⟩ = some (.int .i64 t429) := (blk_cell BK439.out 1).trans rfl
 have hcz108_2 : wc.cell? ⟨gb439, 2, none⟩ = some (.int .i64 t430) := (blk_cell BK439.out 2).trans rfl
 have hcz108_3 : wc.cell? ⟨gb439, 3, none⟩ = some (.slice Ao37 t431.length co37) := (blk_cell BK439.out 3).trans rfl
 have hcz108_4 : wc.cell? ⟨gb439, 4, none⟩ = some (.int .i64 t434) := (blk_cell BK439.out 4).trans rfl
 have hcz108_5 : wc.cell? ⟨gb439, 5, none⟩ = some (.int .i64 t435) := (blk_cell BK439.out 5).trans rfl
 have hcz108_6 : wc.cell? ⟨gb439, 6, none⟩ = some (.slice Ao38 t436.length co38) := (blk_cell BK439.out 6).trans rfl
 have hfz108_0 := blk_frozen BK439.out 0
 have hfz108_1 := blk_frozen BK439.out 1
 have hfz108_2 := blk_frozen BK439.out 2
 have hfz108_3 := blk_frozen BK439.out 3
 have hfz108_4 := blk_frozen BK439.out 4
 have hfz108_5 := blk_frozen BK439.out 5
 have hfz108_6 := blk_frozen BK439.out 6
 try go_wp2_with (first | ((with_reducible refine gate_builtin (b := .append) (xs := #[.tmp 108, .tmp 110]) rfl ?_); at_builtin; refine Kd.R_append (Kd.int .i64) (w0 := w) w.heap.size rfl (.tmp 108) (.tmp 110) 23 3 (.int .i64 0) 8 rfl Try.underlying23 info3 rfl (by decide) (by omega) (.slice Ao37 t431.length co37) t431 a5 [.int .i64 a5] (fun _ => True) (fun _ => False) rfl rfl ?aP (fun _ hk => hk.elim) ?aF ?aO ?aB ?aS ?aL ?_; (case aP => exact rfl); (case aB => exact (by repeat (first | (with_reducible first | exact HB.out | apply below_alloc | apply pw_below_drewN | apply below_drew1 | refine below_set ?_ GE423.out | refine below_set ?_ GE424.out | refine below_set ?_ GE439.out) | exact HB.out))); (case aF => exact (fun _ _ => trivial)); (case aO => exact (by (with_reducible repeat (first | apply Kd.R_alloc | apply Kd.R_drewN | apply Kd.R_drew)); exact HO_440003.out)); (case aS => exact (below_size (by repeat (first | (with_reducible first | exact HB.out | apply below_alloc | apply pw_below_drewN | apply below_drew1 | refine below_set ?_ GE423.out | refine below_set ?_ GE424.out | refine below_set ?_ GE439.out) | exact HB.out)))); (case aL => have := LMc103.out; omega); intro v454 w109 ho hb hg hat; rw [← Ny453.out] at ho; have n0_ := Aside0.mk (Kd.S_over' (by (with_reducible repeat (first | apply Kd.S_alloc | apply Kd.S_drewN | apply Kd.S_drew)); exact HO_440006.out) (Kd.R_typed (by (with_reducible repeat (first | apply Kd.R_alloc | apply Kd.R_drewN | apply Kd.R_drew)); exact HO_440003.out)) (by decide) hg); have n1_ := Aside0.mk (blk_grown (g := gb423) (o := .cells #[.int .i64 a0_0, .int .i64 a0_1, .int .i64 a0_2, .slice A0_3 l0_3.length c0_3, .int .i64 a0_4, .int .i64 a0_5, .slice A0_6 l0_6.length c0_6] 26 (0, 0)) (by (with_reducible repeat (first | refine blk_drewN ?_ _ | refine blk_drew ?_ | refine blk_alloc ?_ _)); exact BK423.out) hg (Kd.R_ne HO_440003.out BK423.out (by decide))); have n2_ := Aside0.mk (blk_grown (g := gb424) (o := .cells #[.int .u8 a6_0, .int .i64 a6_1, .int .i64 a6_2, .int .i64 a6_3] 30 (0, 0)) (by (with_reducible repeat (first | refine blk_drewN ?_ _ | refine blk_drew ?_ | refine blk_alloc ?_ _)); exact BK424.out) hg (Kd.R_ne HO_440003.out BK424.out (by decide))); have n3_ := Aside0.mk (blk_grown (g := gb439) (o := .cells #[.int .i64 t428, .int .i64 t429, .int .i64 t430, .slice Ao37 t431.length co37, .int .i64 t434, .int .i64 t435, .slice Ao38 t436.length co38] 26 (0, 0)) (by (with_reducible repeat (first | refine blk_drewN ?_ _ | refine blk_drew ?_ | refine blk_alloc ?_ _)); exact BK439.out) hg (Kd.R_ne HO_440003.out BK439.out (by decide))); have n4_ := Aside0.mk (hb); have n5_ := Aside0.mk (ho); clear HO_440006; clear BK423; clear BK424; clear BK439; clear HB; clear HO_440003; have HO_440006 := n0_; have BK423 := n1_; have BK424 := n2_; have BK439 := n3_; have HB := n4_; have HO455 := n5_; clear n0_ n1_ n2_ n3_ n4_ n5_; clear ho hb hg hat; obtain ⟨Ao110, co110, eo110⟩ := Kd.R_slice HO455.out; subst eo110; have hcz111_0 : w109.cell? ⟨gb439, 0, none⟩ = some (.int .i64 t428) := (blk_cell BK439.out 0).trans rfl; have hcz111_1 : w109.cell? ⟨gb439, 1, none⟩ = some (.int .i64 t429) := (blk_cell BK439.out 1).trans rfl; have hcz111_2 : w109.cell? ⟨gb439, 2, none⟩ = some (.int .i64 t430) := (blk_cell BK439.out 2).trans rfl; have hcz111_3 : w109.cell? ⟨gb439, 3, none⟩ = some (.slice Ao37 t431.length co37) := (blk_cell BK439.out 3).trans rfl; have hcz111_4 : w109.cell? ⟨gb439, 4, none⟩ = some (.int .i64 t434) := (blk_cell BK439.out 4).trans rfl; have hcz111_5 : w109.cell? ⟨gb439, 5, none⟩ = some (.int .i64 t435) := (blk_cell BK439.out 5).trans rfl; have hcz111_6 : w109.cell? ⟨gb439, 6, none⟩ = some (.slice Ao38 t436.length co38) := (blk_cell BK439.out 6).trans rfl; have hfz111_0 := blk_frozen BK439.out 0; have hfz111_1 := blk_frozen BK439.out 1; have hfz111_2 := blk_frozen BK439.out 2; have hfz111_3 := blk_frozen BK439.out 3; have hfz111_4 := blk_frozen BK439.out 4; have hfz111_5 := blk_frozen BK439.out 5; have hfz111_6 := blk_frozen BK439.out 6))
 have n0_ : Aside0 (Kd.S (Kd.slice 30 k30) 28 (w109.setCell ⟨gb439, 3, none⟩ (.slice Ao110 y453.length co110)) w.heap.size (fun k_ => k_ ≠ gb424) (.slice Ao38 t436.length co38) t436) := ⟨by (with_reducible repeat (first | apply Kd.S_alloc | apply Kd.S_drewN | apply Kd.S_drew)); exact Kd.S_mono (Kd.S_far (p := ⟨gb439, 3, none⟩) (Kd.S_types HO_440006.out BK439.out (by decide)) (fun _ hk => hk.2) (.slice Ao110 y453.length co110)) (fun _ hk => hk.1)⟩
 have n1_ : Aside0 (Kd.R (Kd.int .i64) 3 (w109.setCell ⟨gb439, 3, none⟩ (.slice Ao110 y453.length co110)) w.heap.size (fun _ => True) (.slice Ao110 y453.length co110) y453) := ⟨by (with_reducible repeat (first | apply Kd.R_alloc | apply Kd.R_drewN | apply Kd.R_drew)); exact Kd.R_mono (Kd.R_far (p := ⟨gb439, 3, none⟩) (Kd.R_types HO455.out BK439.out (by decide)) (fun _ hk => hk.2) (.slice Ao110 y453.length co110)) (fun _ hk => trivial)⟩
 have n2_ : Aside0 ((w109.setCell ⟨gb439, 3, none⟩ (.slice Ao110 y453.length co110)).heap[gb423]? = some (.cells #[.int .i64 a0_0, .int .i64 a0_1, .int .i64 a0_2, .slice A0_3 l0_3.length c0_3, .int .i64 a0_4, .int .i64 a0_5, .slice A0_6 l0_6.length c0_6] 26 (0, 0))) := ⟨by (with_reducible repeat (first | refine blk_drewN ?_ _ | refine blk_drew ?_ | refine blk_alloc ?_ _)); refine blk_far ?_ NB423_439.out _; (with_reducible repeat (first | refine blk_drewN ?_ _ | refine blk_drew ?_ | refine blk_alloc ?_ _)); exact BK423.out⟩
 have n3_ : Aside0 ((w109.setCell ⟨gb439, 3, none⟩ (.slice Ao110 y453.length co110)).heap[gb424]? = some (.cells #[.int .u8 a6_0, .int .i64 a6_1, .int .i64 a6_2, .int .i64 a6_3] 30 (0, 0))) := ⟨by (with_reducible repeat (first | refine blk_drewN ?_ _ | refine blk_drew ?_ | refine blk_alloc ?_ _)); refine blk_far ?_ NB424_439.out _; (with_reducible repeat (first | refine blk_drewN ?_ _ | refine blk_drew ?_ | refine blk_alloc ?_ _)); exact BK424.out⟩
 have n4_ : Aside0 ((w109.setCell ⟨gb439, 3, none⟩ (.slice Ao110 y453.length co110)).heap[gb439]? = some (.cells #[.int .i64 t428, .int .i64 t429, .int .i64 t430, .slice Ao110 y453.length co110, .int .i64 t434, .int .i64 t435, .slice Ao38 t436.length co38] 26 (0, 0))) := ⟨by (with_reducible repeat (first | refine blk_drewN ?_ _ | refine blk_drew ?_ | refine blk_alloc ?_ _)); refine blk_put (cs := #[.int .i64 t428, .int .i64 t429, .int .i64 t430, .slice Ao37 t431.length co37, .int .i64 t434, .int .i64 t435, .slice Ao38 t436.length co38]) ?_ 3 _ rfl; (with_reducible repeat (first | refine blk_drewN ?_ _ | refine blk_drew ?_ | refine blk_alloc ?_ _)); exact BK439.out⟩
 have n5_ : Aside0 (Below w.heap.size w (w109.setCell ⟨gb439, 3, none⟩ (.slice Ao110 y453.length co110))) := ⟨by repeat (first | (with_reducible first | exact HB.out | apply below_alloc | apply pw_below_drewN | apply below_drew1 | refine below_set ?_ GE423.out | refine below_set ?_ GE424.out | refine below_set ?_ GE439.out) | exact HB.out)⟩
 (try clear HO_440006)
 (try clear HO455)
 (try clear BK423)
 (try clear BK424)
 (try clear BK439)
 (try clear HB)
 generalize (w109.setCell ⟨gb439, 3, none⟩ (.slice Ao110 y453.length co110)) = w112 at n0_ n1_ n2_ n3_ n4_ n5_ ⊢
 have HO_440006 := n0_
 have HO455 := n1_
 have BK423 := n2_
 have BK424 := n3_
 have BK439 := n4_
 have HB := n5_
 clear n0_ n1_ n2_ n3_ n4_ n5_
 have n0_ := Aside0.mk (Kd.S_drew HO_440006.out)
 have n1_ := Aside0.mk (Kd.R_drew HO455.out)
 have n2_ := Aside0.mk (blk_drew BK423.out)
 have n3_ := Aside0.mk (blk_drew BK424.out)
 have n4_ := Aside0.mk (blk_drew BK439.out)
 have n5_ := Aside0.mk (below_drew1 HB.out)
 clear HO_440006
 clear HO455
 clear BK423
 clear BK424
 clear BK439
 clear HB
 have HO_440006 := n0_
 have HO455 := n1_
 have BK423 := n2_
 have BK424 := n3_
 have BK439 := n4_
 have HB := n5_
 clear n0_ n1_ n2_ n3_ n4_ n5_
 refine start_ (n := 7) (S := fun w' => w'.cell? ⟨gb439, 0, none⟩ = some (.int .i64 t428) ∧ w'.cell? ⟨gb439, 1, none⟩ = some (.int .i64 t429) ∧ w'.cell? ⟨gb439, 2, none⟩ = some (.int .i64 t430) ∧ w'.cell? ⟨gb439, 3, none⟩ = some (.slice Ao110 y453.length co110) ∧ w'.cell? ⟨gb439, 4, none⟩ = some (.int .i64 t434) ∧ w'.cell? ⟨gb439, 5, none⟩ = some (.int .i64 t435) ∧ w'.cell? ⟨gb439, 6, none⟩ = some (.slice Ao38 t436.length co38)) (ds := []) #[false, false, false, false, false, false, false] (by kernel_rfl) rfl rfl ⟨(blk_cell BK439.out 0).trans rfl, (blk_cell BK439.out 1).trans rfl, (blk_cell BK439.out 2).trans rfl, (blk_cell BK439.out 3).trans rfl, (blk_cell BK439.out 4).trans rfl, (blk_cell BK439.out 5).trans rfl, (blk_cell BK439.out 6).trans rfl⟩ (fun hHeld => ?_)
 generalize w112.drew = w113 at HO_440006 HO455 BK423 BK424 BK439 HB hHeld ⊢
 refine take_ (i := 0) (N := some 124) (v := ?_) (a' := ?_) #[true, false, false, false, false, false, false] rfl rfl (by kernel_rfl) (fun _ _ _ h => h) (Or.inl ⟨by rfl, ?_⟩) hHeld ?_ ?_
 rotate_left
 {
 rintro w' ⟨s0, s1, s2, s3, s4, s5, s6⟩
 go_simp
 with_reducible rfl
 }
 rotate_left
 {
 simp only [Act.put, List.setIfInBounds_toArray, List.set_cons_zero, List.set_cons_succ, i64_w, i32_w]
 rfl
 }
 refine take_ (i := 3) (N := some 127) (v := ?_) (a' := ?_) #[true, false, false, true, false, false, false] rfl rfl (by kernel_rfl) (fun _ _ _ h => h) (Or.inl ⟨by rfl, ?_⟩) hHeld ?_ ?_
 rotate_left
 {
 rintro w' ⟨s0, s1, s2, s3, s4, s5, s6⟩
 go_simp
 with_reducible rfl
 }
 rotate_left
 {
 simp only [Act.put, List.setIfInBounds_toArray, List.set_cons_zero, List.set_cons_succ, i64_w, i32_w]
 rfl
 }
 refine one_ (i := 1) (N := some 125) #[true, true, false, true, false, false, false] rfl rfl (by kernel_rfl) (by decide) (fun K hK => ?_)
 refine goes_ Try.func12 (by kernel_rfl) rfl #[.agg #[.int .i64 t428, .int .i64 t429, .int .i64 t430, .slice Ao110 y453.length co110, .int .i64 t434, .int .i64 t435, .slice Ao38 t436.length co38]] (by rfl) rfl rfl (by (try simp only [List.map_toArray, List.map_cons, List.map_nil]); first | done | rfl | (simp only [List.length_drop, List.length_take]; rfl)) ?_
 with_reducible refine (ir_Sound.calls t428 t429 t430 _ _ y453 t434 t435 _ _ t436 t456 _ ?side1 ?side2 ?side3 ?side4 A104.out).mono ?_
 (case side1 => repeat (first | exact (Kd.R_reads' HO455.out).2.2 | (with_reducible refine Kd.C_alloc ?_ _) | (with_reducible refine Kd.C_drewN ?_ _) | (with_reducible refine Kd.C_drew ?_)))
 (case side2 => exact (Kd.R_reads' HO455.out).2.1)
 (case side3 => repeat (first | exact (Kd.S_reads' HO_440006.out).2.2 | (with_reducible refine Kd.C_alloc ?_ _) | (with_reducible refine Kd.C_drewN ?_ _) | (with_reducible refine Kd.C_drew ?_)))
 (case side4 => exact (Kd.S_reads' HO_440006.out).2.1)
 rintro e w114 ⟨rfl, hb⟩
 refine ⟨_, rfl, ?_⟩
 have n0_ := Aside0.mk (Kd.S_below (by (with_reducible repeat (first | apply Kd.S_alloc | apply Kd.S_drewN | apply Kd.S_drew)); exact HO_440006.out) hb)
 have n1_ := Aside0.mk (Kd.R_below (by (with_reducible repeat (first | apply Kd.R_alloc | apply Kd.R_drewN | apply Kd.R_drew)); exact HO455.out) hb)
 have n2_ := Aside0.mk (blk_below (g := gb423) (o := .cells #[.int .i64 a0_0, .int .i64 a0_1, .int .i64 a0_2, .slice A0_3 l0_3.length c0_3, .int .i64 a0_4, .int .i64 a0_5, .slice A0_6 l0_6.length c0_6] 26 (0, 0)) (by (with_reducible repeat (first | refine blk_drewN ?_ _ | refine blk_drew ?_ | refine blk_alloc ?_ _)); exact BK423.out) hb)
 have n3_ := Aside0.mk (blk_below (g := gb424) (o := .cells #[.int .u8 a6_0, .int .i64 a6_1, .int .i64 a6_2, .int .i64 a6_3] 30 (0, 0)) (by (with_reducible repeat (first | refine blk_drewN ?_ _ | refine blk_drew ?_ | refine blk_alloc ?_ _)); exact BK424.out) hb)
 have n4_ := Aside0.mk (blk_below (g := gb439) (o := .cells #[.int .i64 t428, .int .i64 t429, .int .i64 t430, .slice Ao110 y453.length co110, .int .i64 t434, .int .i64 t435, .slice Ao38 t436.length co38] 26 (0, 0)) (by (with_reducible repeat (first | refine blk_drewN ?_ _ | refine blk_drew ?_ | refine blk_alloc ?_ _)); exact BK439.out) hb)
 have n5_ := Aside0.mk (below_step (by repeat (first | (with_reducible first | exact HB.out | apply below_alloc | apply pw_below_drewN | apply below_drew1 | refine below_set ?_ GE423.out | refine below_set ?_ GE424.out | refine below_set ?_ GE439.out) | exact HB.out)) hb)
 clear HO_440006
 clear HO455
 clear BK423
 clear BK424
 clear BK439
 clear HB
 have HO_440006 := n0_
 have HO455 := n1_
 have BK423 := n2_
 have BK424 := n3_
 have BK439 := n4_
 have HB := n5_
 clear n0_ n1_ n2_ n3_ n4_ n5_
 (try clear hb)
 (try clear hb2)
 (try clear hk)
 (try clear hi)
 refine hK.out _ _ ⟨(blk_cell BK439.out 0).trans rfl, (blk_cell BK439.out 1).trans rfl, (blk_cell BK439.out 2).trans rfl, (blk_cell BK439.out 3).trans rfl, (blk_cell BK439.out 4).trans rfl, (blk_cell BK439.out 5).trans rfl, (blk_cell BK439.out 6).trans rfl⟩ (fun hHeld => ?_)
 clear hK K
 refine norm_ (a' := ?_) ?_ ?_
 rotate_left
 {
 show Act.put _ (some 125) _ = _
 simp only [Act.put, List.setIfInBounds_toArray, List.set_cons_zero, List.set_cons_succ, i64_w, i32_w]
 rfl
 }
 refine pure_ (i := 2) (N := some 126) (v := ?_) (a' := ?_) #[true, true, true, true, false, false, false] rfl rfl (by kernel_rfl) (fun _ _ _ h => h) (Or.inl ⟨by rfl, ?_⟩) ?_ ?_
 rotate_left
 {
 intro w'
 go_simp
 with_reducible rfl
 }
 rotate_left
 {
 simp only [Act.put, List.setIfInBounds_toArray, List.set_cons_zero, List.set_cons_succ, i64_w, i32_w]
 rfl
 }
 refine one_ (i := 4) (N := some 128) #[true, true, true, true, true, false, false] rfl rfl (by kernel_rfl) (by decide) (fun K hK => ?_)
 refine goes_ Try.func13 (by kernel_rfl) rfl #[.agg #[.int .i64 t428, .int .i64 t429, .int .i64 t430, .slice Ao110 y453.length co110, .int .i64 t434, .int .i64 t435, .slice Ao38 t436.length co38]] (by rfl) rfl rfl (by (try simp only [List.map_toArray, List.map_cons, List.map_nil]); first | done | rfl | (simp only [List.length_drop, List.length_take]; rfl)) ?_
 with_reducible refine (interlockref02_Sound.calls kj28 t428 t429 t430 _ _ y453 t434 t435 _ _ t436 t457 _ ?side1 ?side2 ?side3 ?side4 A105.out).mono ?_
 (case side1 => repeat (first | exact (Kd.R_reads' HO455.out).2.2 | (with_reducible refine Kd.C_alloc ?_ _) | (with_reducible refine Kd.C_drewN ?_ _) | (with_reducible refine Kd.C_drew ?_)))
 (case side2 => exact (Kd.R_reads' HO455.out).2.1)
 (case side3 => repeat (first | exact (Kd.S_reads' HO_440006.out).2.2 | (with_reducible refine Kd.C_alloc ?_ _) | (with_reducible refine Kd.C_drewN ?_ _) | (with_reducible refine Kd.C_drew ?_)))
 (case side4 => exact (Kd.S_reads' HO_440006.out).2.1)
 rintro e w115 ⟨rfl, hb⟩
 refine ⟨_, rfl, ?_⟩
 have n0_ := Aside0.mk (Kd.S_below (by (with_reducible repeat (first | apply Kd.S_alloc | apply Kd.S_drewN | apply Kd.S_drew)); exact HO_440006.out) hb)
 have n1_ := Aside0.mk (Kd.R_below (by (with_reducible repeat (first | apply Kd.R_alloc | apply Kd.R_drewN | apply Kd.R_drew)); exact HO455.out) hb)
 have n2_ := Aside0.mk (blk_below (g := gb423) (o := .cells #[.int .i64 a0_0, .int .i64 a0_1, .int .i64 a0_2, .slice A0_3 l0_3.length c0_3, .int .i64 a0_4, .int .i64 a0_5, .slice A0_6 l0_6.length c0_6] 26 (0, 0)) (by (with_reducible repeat (first | refine blk_drewN ?_ _ | refine blk_drew ?_ | refine blk_alloc ?_ _)); exact BK423.out) hb)
 have n3_ := Aside0.mk (blk_below (g := gb424) (o := .cells #[.int .u8 a6_0, .int .i64 a6_1, .int .i64 a6_2, .int .i64 a6_3] 30 (0, 0)) (by (with_reducible repeat (first | refine blk_drewN ?_ _ | refine blk_drew ?_ | refine blk_alloc ?_ _)); exact BK424.out) hb)
 have n4_ := Aside0.mk (blk_below (g := gb439) (o := .cells #[.int .i64 t428, .int .i64 t429, .int .i64 t430, .slice Ao110 y453.length co110, .int .i64 t434, .int .i64 t435, .slice Ao38 t436.length co38] 26 (0, 0)) (by (with_reducible repeat (first | refine blk_drewN ?_ _ | refine blk_drew ?_ | refine blk_alloc ?_ _)); exact BK439.out) hb)
 have n5_ := Aside0.mk (below_step (by repeat (first | (with_reducible first | exact HB.out | apply below_alloc | apply pw_below_drewN | apply below_drew1 | refine below_set ?_ GE423.out | refine below_set ?_ GE424.out | refine below_set ?_ GE439.out) | exact HB.out)) hb)
 clear HO_440006
 clear HO455
 clear BK423
 clear BK424
 clear BK439
 clear HB
 have HO_440006 := n0_
 have HO455 := n1_
 have BK423 := n2_
 have BK424 := n3_
 have BK439 := n4_
 have HB := n5_
 clear n0_ n1_ n2_ n3_ n4_ n5_
 (try clear hb)
 (try clear hb2)
 (try clear hk)
 (try clear hi)
 refine hK.out _ _ ⟨(blk_cell BK439.out 0).trans rfl, (blk_cell BK439.out 1).trans rfl, (blk_cell BK439.out 2).trans rfl, (blk_cell BK439.out 3).trans rfl, (blk_cell BK439.out 4).trans rfl, (blk_cell BK439.out 5).trans rfl, (blk_cell BK439.out 6).trans rfl⟩ (fun hHeld => ?_)
 clear hK K
 refine norm_ (a' := ?_) ?_ ?_
 rotate_left
 {
 show Act.put _ (some 128) _ = _
 simp only [Act.put, List.setIfInBounds_toArray, List.set_cons_zero, List.set_cons_succ, i64_w, i32_w]
 rfl
 }
 refine pure_ (i := 5) (N := some 129) (v := ?_) (a' := ?_) #[true, true, true, true, true, true, false] rfl rfl (by kernel_rfl) (fun _ _ _ h => h) (Or.inl ⟨by rfl, ?_⟩) ?_ ?_
 rotate_left
 {
 intro w'
 go_simp
 with_reducible rfl
 }
 rotate_left
 {
 simp only [Act.put, List.setIfInBounds_toArray, List.set_cons_zero, List.set_cons_succ, i64_w, i32_w]
 rfl
 }
 refine pure_ (i := 6) (N := some 14) (v := ?_) (a' := ?_) #[true, true, true, true, true, true, true] rfl rfl (by kernel_rfl) (fun _ _ _ h => h) (Or.inl ⟨by rfl, ?_⟩) ?_ ?_
 rotate_left
 {
 intro w'
 go_simp
 with_reducible rfl
 }
 rotate_left
 {
 simp only [Act.put, List.setIfInBounds_toArray, List.set_cons_zero, List.set_cons_succ, i64_w, i32_w]
 rfl
 }
 refine done_ (by kernel_rfl) ?_
 try go_wp2
 go_ret
 exact ⟨by first | rfl | (simp [errW_none, errW_some] <;> rfl) | (simp [*, errW_none, errW_some] <;> rfl), by repeat (first | (with_reducible first | exact HB.out | apply below_alloc | apply pw_below_drewN | apply below_drew1 | refine below_set ?_ GE423.out | refine below_set ?_ GE424.out | refine below_set ?_ GE439.out) | exact HB.out)⟩
 }
 {
 rw [if_neg c103] at H
 exact absurd H (by simp)
 }
 }
 {
 rw [if_neg c102] at H
 have c102b0 : ((Int.tmod a2 9) == 5) = false := beq_eq_false_iff_ne.mpr c102
 have c102b1 : ((Int.tmod a2 9) != 5) = true := bne_iff_ne.mpr c102
 by_cases c116 : (Int.tmod a2 9) = 6
 {
 rw [if_pos c116] at H
 have c116b0 : ((Int.tmod a2 9) == 6) = true := beq_iff_eq.mpr c116
 have c116b1 : ((Int.tmod a2 9) != 6) = false := bne_eq_false_iff_eq.mpr c116
 clear c116
 obtain ⟨ji117, hji117⟩ : ∃ j_ : Int, (wrap64 (Int.tmod a4 70)) = j_ := ⟨_, rfl⟩
 replace H : (if 0 ≤ (ji117) then (if (ji117 : Int).toNat ≤ 8796093022208 then (if t436.length < 5864062014805 then ((some (t436 ++ [(List.replicate (ji117 : Int).toNat z30)] : List (List (S30)))).bind fun y461 => ((ir_Sound.f t428 t429 t430 t431 t434 t435 y461).bind fun t464 => ((interlockref02_Sound.f kj28 t428 t429 t430 t431 t434 t435 y461).bind fun t465 => (some ((wrap64 (t464)) == t465))))) else (none)) else (none)) else (none)) = some r := by first | (rw [hji117] at H; exact H) | (simp only [hji117] at H ⊢; exact H)
 have hji117w : (IntKind.i64.wrap (Int.tmod a4 70)) = ji117 := (i64_w _).trans hji117
 by_cases c118 : 0 ≤ (ji117)
 {
 rw [if_pos c118] at H
 have c118b0 := eq_true c118
 have c118b1 : decide (0 ≤ (ji117)) = true := decide_eq_true c118
 clear c118
 by_cases c119 : (ji117 : Int).toNat ≤ 8796093022208
 {
 rw [if_pos c119] at H
 have c119b0 := eq_true c119
 have c119b1 : decide ((ji117 : Int).toNat ≤ 8796093022208) = true := decide_eq_true c119
 clear c119
 obtain ⟨y458, hy458⟩ : ∃ y_ : List (S30), y_ = (List.replicate (ji117 : Int).toNat z30) := ⟨_, rfl⟩
 replace H : (if t436.length < 5864062014805 then ((some (t436 ++ [y458] : List (List (S30)))).bind fun y461 => ((ir_Sound.f t428 t429 t430 t431 t434 t435 y461).bind fun t464 => ((interlockref02_Sound.f kj28 t428 t429 t430 t431 t434 t435 y461).bind fun t465 => (some ((wrap64 (t464)) == t465))))) else (none)) = some r := by first | (rw [hy458]; with_reducible exact H) | (have H2_ := (Option.bind_some _ _).symm.trans H; rw [hy458]; with_reducible exact H2_) | (have H2_ := (Option.bind_some _ _).symm.trans H; with_reducible exact H2_) | with_reducible exact H | (rw [hy458]; exact H) | exact H
 have Ny458 := Aside0.mk hy458
 clear hy458
 by_cases c120 : t436.length < 5864062014805
 {
 rw [if_pos c120] at H
 have LMc120 := Aside0.mk c120
 clear c120
 obtain ⟨y461, hy461⟩ : ∃ y_ : List (List (S30)), y_ = (t436 ++ [y458]) := ⟨_, rfl⟩
 replace H : ((ir_Sound.f t428 t429 t430 t431 t434 t435 y461).bind fun t464 => ((interlockref02_Sound.f kj28 t428 t429 t430 t431 t434 t435 y461).bind fun t465 => (some ((wrap64 (t464)) == t465)))) = some r := by first | (rw [hy461]; with_reducible exact H) | (have H2_ := (Option.bind_some _ _).symm.trans H; rw [hy461]; with_reducible exact H2_) | (have H2_ := (Option.bind_some _ _).symm.trans H; with_reducible exact H2_) | with_reducible exact H | (rw [hy461]; exact H) | exact H
 have Ny461 := Aside0.mk hy461
 clear hy461
 replace H := Option.bind_eq_some_iff.mp H
 obtain ⟨t464, A1210, H⟩ := H
 replace H : ((interlockref02_Sound.f kj28 t428 t429 t430 t431 t434 t435 y461).bind fun t465 => (some ((wrap64 (t464)) == t465))) = some r := H
 have A121 := Aside0.mk A1210
 clear A1210
 replace H := Option.bind_eq_some_iff.mp H
 obtain ⟨t465, A1220, H⟩ := H
 replace H : (some ((wrap64 (t464)) == t465)) = some r := H
 have A122 := Aside0.mk A1220
 clear A1220
 obtain rfl := Option.some.inj H
 try go_wp2
 have n0_ := Aside0.mk (Kd.R_drew HO_440003.out)
 have n1_ := Aside0.mk (Kd.S_drew HO_440006.out)
 have n2_ := Aside0.mk (blk_drew BK423.out)
 have n3_ := Aside0.mk (blk_drew BK424.out)
 have n4_ := Aside0.mk (blk_drew BK439.out)
 have n5_ := Aside0.mk (below_drew1 HB.out)
 clear HO_440003
 clear HO_440006
 clear BK423
 clear BK424
 clear BK439
 clear HB
 have HO_440003 := n0_
 have HO_440006 := n1_
 have BK423 := n2_
 have BK424 := n3_
 have BK439 := n4_
 have HB := n5_
 clear n0_ n1_ n2_ n3_ n4_ n5_
 refine start_ (n := 10) (S := fun w' => w'.cell? ⟨gb439, 0, none⟩ = some (.int .i64 t428) ∧ w'.cell? ⟨gb439, 1, none⟩ = some (.int .i64 t429) ∧ w'.cell? ⟨gb439, 2, none⟩ = some (.int .i64 t430) ∧ w'.cell? ⟨gb439, 3, none⟩ = some (.slice Ao37 t431.length co37) ∧ w'.cell? ⟨gb439, 4, none⟩ = some (.int .i64 t434) ∧ w'.cell? ⟨gb439, 5, none⟩ = some (.int .i64 t435) ∧ w'.cell? ⟨gb439, 6, none⟩ = some (.slice Ao38 t436.length co38)) (ds := [9]) #[false, false, false, false, false, false, false, false, false, false] (by kernel_rfl) rfl rfl ⟨(blk_cell BK439.out 0).trans rfl, (blk_cell BK439.out 1).trans rfl, (blk_cell BK439.out 2).trans rfl, (blk_cell BK439.out 3).trans rfl, (blk_cell BK439.out 4).trans rfl, (blk_cell BK439.out 5).trans rfl, (blk_cell BK439.out 6).trans rfl⟩ (fun hHeld => ?_); refine with_tabW interlocklaw02_IrSounds.tab28 interlocklaw02_IrSounds.bits28 (fun HT_ HW_ => ?_)
 generalize wc.drew = w123 at HO_440003 HO_440006 BK423 BK424 BK439 HB hHeld ⊢
 refine pure_ (i := 0) (N := some 115) (v := ?_) (a' := ?_) #[true, false, false, false, false, false, false, false, false, false] rfl rfl (any_of HT_.out (by kernel_rfl)) (fun _ _ _ h => h) (Or.inl ⟨by rfl, ?_⟩) ?_ ?_
 rotate_left
 {
 intro w'
 go_simp
 with_reducible rfl
 }
 rotate_left
 {
 simp only [Act.put, List.setIfInBounds_toArray, List.set_cons_zero, List.set_cons_succ, i64_w, i32_w]
 rfl
 }
 refine pure_ (i := 2) (N := some 117) (v := ?_) (a' := ?_) #[true, false, true, false, false, false, false, false, false, false] rfl rfl (any_of HT_.out (by kernel_rfl)) (fun _ _ _ h => h) (Or.inl ⟨by rfl, ?_⟩) ?_ ?_
 rotate_left
 {
 intro w'
 go_simp
 with_reducible rfl
 }
 rotate_left
 {
 simp only [Act.put, List.setIfInBounds_toArray, List.set_cons_zero, List.set_cons_succ, i64_w, i32_w]
 rfl
 }
 refine pure_ (i := 3) (N := some 118) (v := ?_) (a' := ?_) #[true, false, true, true, false, false, false, false, false, false] rfl rfl (any_of HT_.out (by kernel_rfl)) (fun _ _ _ h => h) (Or.inl ⟨by rfl, ?_⟩) ?_ ?_
 rotate_left
 {
 intro w'
 go_simp
 with_reducible rfl
 }
 rotate_left
 {
 simp only [Act.put, List.setIfInBounds_toArray, List.set_cons_zero, List.set_cons_succ, i64_w, i32_w]
 rfl
 }
 refine pure_ (i := 4) (N := some 119) (v := ?_) (a' := ?_) #[true, false, true, true, true, false, false, false, false, false] rfl rfl (any_of HT_.out (by kernel_rfl)) (fun _ _ _ h => h) (Or.inl ⟨by rfl, ?_⟩) ?_ ?_
 rotate_left
 {
 intro w'
 go_simp
 with_reducible rfl
 }
 rotate_left
 {
 simp only [Act.put, List.setIfInBounds_toArray, List.set_cons_zero, List.set_cons_succ, i64_w, i32_w]
 rfl
 }
 refine take_ (i := 1) (N := some 116) (v := ?_) (a' := ?_) #[true, true, true, true, true, false, false, false, false, false] rfl rfl (take_ofW HT_.out HW_.out (by kernel_rfl)) (fun _ _ _ h => h) (Or.inl ⟨by rfl, ?_⟩) hHeld ?_ ?_
 rotate_left
 {
 rintro w' ⟨s0, s1, s2, s3, s4, s5, s6⟩
 go_simp
 with_reducible rfl
 }
 rotate_left
 {
 simp only [Act.put, List.setIfInBounds_toArray, List.set_cons_zero, List.set_cons_succ, i64_w, i32_w]
 rfl
 }
 refine one_ (i := 5) (N := some 120) #[true, true, true, true, true, true, false, false, false, false] rfl rfl (one_of HT_.out (by kernel_rfl)) (by decide) (fun K hK => ?_)
 refine Kd.R_make_step k30 _ 30 (by rfl) (N := 120) rfl 28 _ _ rfl ji117 rfl rfl Try.underlying28 (.agg #[(.int .u8 0), (.int .i64 0), (.int .i64 0), (.int .i64 0)]) 32 info30 rfl (by decide) (by omega) z30 (ok := fun _ => True) (okp := fun _ => True) (k30_mkM _ _ _ z30 ) (fun _ hk => hk) trivial (of_decide_eq_true (by first | (with_reducible assumption) | assumption)) (Nat.le_trans (Nat.mul_le_mul_right _ (of_decide_eq_true (by first | (with_reducible assumption) | assumption) : ji117.toNat ≤ 8796093022208)) (by omega)) (Below.refl _ _) (Nat.le_refl _) ?_
 intro v459 w124 ho125 hb hg_ hnew_
 clear hg_ hnew_
 (first | rw [← Ny458.out] at ho125 | (simp only [Int.reduceToNat] at ho125; rw [← Ny458.out] at ho125))
 have n0_ := Aside0.mk (Kd.R_below (by (with_reducible repeat (first | apply Kd.R_alloc | apply Kd.R_drewN | apply Kd.R_drew)); exact HO_440003.out) hb)
 have n1_ := Aside0.mk (Kd.S_elder' (by (with_reducible repeat (first | apply Kd.S_alloc | apply Kd.S_drewN | apply Kd.S_drew)); exact HO_440006.out) (Kd.R_base ho125) hb)
 have n2_ := Aside0.mk (Kd.R_lower (Kd.R_newB ho125 (g := gb424) (o := .cells #[.int .u8 a6_0, .int .i64 a6_1, .int .i64 a6_2, .int .i64 a6_3] 30 (0, 0)) (by (with_reducible repeat (first | refine blk_drewN ?_ _ | refine blk_drew ?_ | refine blk_alloc ?_ _)); exact BK424.out)) (below_size (by repeat (first | (with_reducible first | exact HB.out | apply below_alloc | apply pw_below_drewN | apply below_drew1 | refine below_set ?_ GE423.out | refine below_set ?_ GE424.out | refine below_set ?_ GE439.out) | exact HB.out))))
 have n3_ := Aside0.mk (blk_below (g := gb423) (o := .cells #[.int .i64 a0_0, .int .i64 a0_1, .int .i64 a0_2, .slice A0_3 l0_3.length c0_3, .int .i64 a0_4, .int .i64 a0_5, .slice A0_6 l0_6.length c0_6] 26 (0, 0)) (by (with_reducible repeat (first | refine blk_drewN ?_ _ | refine blk_drew ?_ | refine blk_alloc ?_ _)); exact BK423.out) hb)
 have n4_ := Aside0.mk (blk_below (g := gb424) (o := .cells #[.int .u8 a6_0, .int .i64 a6_1, .int .i64 a6_2, .int .i64 a6_3] 30 (0, 0)) (by (with_reducible repeat (first | refine blk_drewN ?_ _ | refine blk_drew ?_ | refine blk_alloc ?_ _)); exact BK424.out) hb)
 have n5_ := Aside0.mk (blk_below (g := gb439) (o := .cells #[.int .i64 t428, .int .i64 t429, .int .i64 t430, .slice Ao37 t431.length co37, .int .i64 t434, .int .i64 t435, .slice Ao38 t436.length co38] 26 (0, 0)) (by (with_reducible repeat (first | refine blk_drewN ?_ _ | refine blk_drew ?_ | refine blk_alloc ?_ _)); exact BK439.out) hb)
 have n6_ := Aside0.mk (below_step (by repeat (first | (with_reducible first | exact HB.out | apply below_alloc | apply pw_below_drewN | apply below_drew1 | refine below_set ?_ GE423.out | refine below_set ?_ GE424.out | refine below_set ?_ GE439.out) | exact HB.out)) hb)
 clear HO_440003
 clear HO_440006
 clear BK423
 clear BK424
 clear BK439
 clear HB
 have HO_440003 := n0_
 have HO_440006 := n1_
 have HO460 := n2_
 have BK423 := n3_
 have BK424 := n4_
 have BK439 := n5_
 have HB := n6_
 clear n0_ n1_ n2_ n3_ n4_ n5_ n6_
 clear hb ho125
 obtain ⟨Ao127, co127, eo127⟩ := Kd.R_slice HO460.out
 (first | subst eo127 | (injection eo127 with f1_ f2_ f3_; have f4_ := f1_.symm; have f5_ := f3_.symm; clear f1_ f2_ f3_; subst f4_; subst f5_))
 refine hK.out _ _ ⟨(blk_cell BK439.out 0).trans rfl, (blk_cell BK439.out 1).trans rfl, (blk_cell BK439.out 2).trans rfl, (blk_cell BK439.out 3).trans rfl, (blk_cell BK439.out 4).trans rfl, (blk_cell BK439.out 5).trans rfl, (blk_cell BK439.out 6).trans rfl⟩ (fun hHeld => ?_)
 clear hK K
 refine norm_ (a' := ?_) ?_ ?_
 rotate_left
 {
 show Act.put _ (some 120) _ = _
 simp only [Act.put, List.setIfInBounds_toArray, List.set_cons_zero, List.set_cons_succ, i64_w, i32_w]
 rfl
 }
 refine one_ (i := 6) (N := some 121) #[true, true, true, true, true, true, true, false, false, false] rfl rfl (one_of HT_.out (by kernel_rfl)) (by decide) (fun K hK => ?_)
 refine value_ (w1 := ?_) (v := ?_) (by rfl) rfl ?_ ?_
 rotate_left 2
 {
 go_simp
 constructor
 {
 rfl
 }
 {
 rfl
 }
 }
 refine hK.out _ _ ⟨(blk_cell (blk_alloc BK439.out _) 0).trans rfl, (blk_cell (blk_alloc BK439.out _) 1).trans rfl, (blk_cell (blk_alloc BK439.out _) 2).trans rfl, (blk_cell (blk_alloc BK439.out _) 3).trans rfl, (blk_cell (blk_alloc BK439.out _) 4).trans rfl, (blk_cell (blk_alloc BK439.out _) 5).trans rfl, (blk_cell (blk_alloc BK439.out _) 6).trans rfl⟩ (fun hHeld => ?_)
 clear hK K
 refine norm_ (a' := ?_) ?_ ?_
 rotate_left
 {
 show Act.put _ (some 121) _ = _
 simp only [Act.put, List.setIfInBounds_toArray, List.set_cons_zero, List.set_cons_succ, i64_w, i32_w]
 rfl
 }
 refine one_ (i := 7) (N := some 122) #[true, true, true, true, true, true, true, true, false, false] rfl rfl (one_of HT_.out (by kernel_rfl)) (by decide) (fun K hK => ?_)
 refine Kd.S_append_step (Kd.slice 30 k30) (w0 := w) w.heap.size (by rfl) (.tmp 116) (.tmp 121) 24 28 (.slice none 0 0) 24 rfl Try.underlying24 info28 rfl (by decide) (by omega) (.slice Ao38 t436.length co38) t436 y458 [.slice Ao127 y458.length co127] (fun k_ => k_ ≠ gb424) (fun k_ => some k_ = (.slice Ao127 y458.length co127 : Value).ownBlock) rfl rfl ?aP (fun k_ hk_ => ((Kd.R_mono (ok' := fun k_ => ((fun k_ => k_ ≠ gb424)) k_ ∧ some k_ ≠ (.slice Ao38 t436.length co38 : Value).ownBlock) (Kd.R_apart' (HO460.out) (Kd.S_typed HO_440006.out) (by decide)) (fun k_ hk => ⟨hk.1.2, hk.2⟩))).1 k_ hk_.symm) ?aF ?aO ?aB ?aS ?aL ?_
 (case aP => exact Kd.M_row (Kd.R_mono (Kd.R_tight rfl (Kd.R_mono (ok' := fun k_ => ((fun k_ => k_ ≠ gb424)) k_ ∧ some k_ ≠ (.slice Ao38 t436.length co38 : Value).ownBlock) (Kd.R_apart' (HO460.out) (Kd.S_typed HO_440006.out) (by decide)) (fun k_ hk => ⟨hk.1.2, hk.2⟩))) (fun _ h_ => h_)))
 (case aB => exact (by repeat (first | (with_reducible first | exact HB.out | apply below_alloc | apply pw_below_drewN | apply below_drew1 | refine below_set ?_ GE423.out | refine below_set ?_ GE424.out | refine below_set ?_ GE439.out) | exact HB.out)))
 (case aF => exact (fun k_ hk => Kd.freshB (g := gb424) (o := .cells #[.int .u8 a6_0, .int .i64 a6_1, .int .i64 a6_2, .int .i64 a6_3] 30 (0, 0)) (by (with_reducible repeat (first | refine blk_drewN ?_ _ | refine blk_drew ?_ | refine blk_alloc ?_ _)); exact BK424.out) k_ hk))
 (case aO => exact (by (with_reducible repeat (first | apply Kd.S_alloc | apply Kd.S_drewN | apply Kd.S_drew)); exact Kd.S_mono HO_440006.out (fun k_ hk => ⟨hk.1, fun e_ => hk.2 e_⟩)))
 (case aS => exact (below_size (by repeat (first | (with_reducible first | exact HB.out | apply below_alloc | apply pw_below_drewN | apply below_drew1 | refine below_set ?_ GE423.out | refine below_set ?_ GE424.out | refine below_set ?_ GE439.out) | exact HB.out))))
 (case aL => have := LMc120.out; omega)
 intro v462 w126 ho hb hg hat
 rw [← Ny461.out] at ho
 have n0_ := Aside0.mk (Kd.R_over' (by (with_reducible repeat (first | apply Kd.R_alloc | apply Kd.R_drewN | apply Kd.R_drew)); exact HO_440003.out) (Kd.S_typed (by (with_reducible repeat (first | apply Kd.S_alloc | apply Kd.S_drewN | apply Kd.S_drew)); exact HO_440006.out)) (by decide) hg)
 have n1_ := Aside0.mk (blk_grown (g := gb423) (o := .cells #[.int .i64 a0_0, .int .i64 a0_1, .int .i64 a0_2, .slice A0_3 l0_3.length c0_3, .int .i64 a0_4, .int .i64 a0_5, .slice A0_6 l0_6.length c0_6] 26 (0, 0)) (by (with_reducible repeat (first | refine blk_drewN ?_ _ | refine blk_drew ?_ | refine blk_alloc ?_ _)); exact BK423.out) hg (Kd.S_ne HO_440006.out BK423.out (by decide)))
 have n2_ := Aside0.mk (blk_grown (g := gb424) (o := .cells #[.int .u8 a6_0, .int .i64 a6_1, .int .i64 a6_2, .int .i64 a6_3] 30 (0, 0)) (by (with_reducible repeat (first | refine blk_drewN ?_ _ | refine blk_drew ?_ | refine blk_alloc ?_ _)); exact BK424.out) hg (Kd.S_ne HO_440006.out BK424.out (by decide)))
 have n3_ := Aside0.mk (blk_grown (g := gb439) (o := .cells #[.int .i64 t428, .int .i64 t429, .int .i64 t430, .slice Ao37 t431.length co37, .int .i64 t434, .int .i64 t435, .slice Ao38 t436.length co38] 26 (0, 0)) (by (with_reducible repeat (first | refine blk_drewN ?_ _ | refine blk_drew ?_ | refine blk_alloc ?_ _)); exact BK439.out) hg (Kd.S_ne HO_440006.out BK439.out (by decide)))
 have n4_ := Aside0.mk (hb)
 have n5_ := Aside0.mk (ho)
 clear HO_440003
 clear BK423
 clear BK424
 clear BK439
 clear HB
 clear HO_440006
 clear HO460
 have HO_440003 := n0_
 have BK423 := n1_
 have BK424 := n2_
 have BK439 := n3_
 have HB := n4_
 have HO463 := n5_
 clear n0_ n1_ n2_ n3_ n4_ n5_
 clear ho hb hg hat
 obtain ⟨Ao128, co128, eo128⟩ := Kd.S_slice HO463.out
 (first | subst eo128 | (injection eo128 with f1_ f2_ f3_; have f4_ := f1_.symm; have f5_ := f3_.symm; clear f1_ f2_ f3_; subst f4_; subst f5_))
 refine hK.out _ _ ⟨(blk_cell BK439.out 0).trans rfl, (blk_cell BK439.out 1).trans rfl, (blk_cell BK439.out 2).trans rfl, (blk_cell BK439.out 3).trans rfl, (blk_cell BK439.out 4).trans rfl, (blk_cell BK439.out 5).trans rfl, (blk_cell BK439.out 6).trans rfl⟩ (fun hHeld => ?_)
 clear hK K
 refine norm_ (a' := ?_) ?_ ?_
 rotate_left
 {
 show Act.put _ (some 122) _ = _
 simp only [Act.put, List.setIfInBounds_toArray, List.set_cons_zero, List.set_cons_succ, i64_w, i32_w]
 rfl
 }
 refine pure_ (i := 8) (N := some 123) (v := ?_) (a' := ?_) #[true, true, true, true, true, true, true, true, true, false] rfl rfl (any_of HT_.out (by kernel_rfl)) (fun _ _ _ h => h) (Or.inl ⟨by rfl, ?_⟩) ?_ ?_
 rotate_left
 {
 intro w'
 go_simp
 with_reducible rfl
 }
 rotate_left
 {
 simp only [Act.put, List.setIfInBounds_toArray, List.set_cons_zero, List.set_cons_succ, i64_w, i32_w]
 rfl
 }
 refine last_ (i := 9) (N := none) #[true, true, true, true, true, true, true, true, true, true] rfl rfl (one_of HT_.out (by kernel_rfl)) (by decide) (fun K hK => ?_)
 have hs129 : w126.cell? ⟨gb439, 6, none⟩ = some (.slice Ao38 t436.length co38) := (blk_cell BK439.out 6).trans rfl
 have hfs129 := blk_frozen BK439.out 6
 have hns129_0 := NB423_439.out
 have hns129_1 := NB424_439.out
 have hms129_0 := NB439_423.out
 have hms129_1 := NB439_424.out
 refine skip_ (w1 := ?_) (by rfl) rfl ?_ ?_
 rotate_left
 {
 go_simp
 rfl
 }
 refine hK.out _ _ ?_
 clear hK K
 refine done_ (done_of HT_.out (by kernel_rfl)) ?_
 try go_wp2
 have n0_ : Aside0 (Kd.R (Kd.int .i64) 3 (w126.setCell ⟨gb439, 6, none⟩ (.slice Ao128 y461.length co128)) w.heap.size (fun _ => True) (.slice Ao37 t431.length co37) t431) := ⟨by (with_reducible repeat (first | apply Kd.R_alloc | apply Kd.R_drewN | apply Kd.R_drew)); exact Kd.R_mono (Kd.R_far (p := ⟨gb439, 6, none⟩) (Kd.R_types HO_440003.out BK439.out (by decide)) (fun _ hk => hk.2) (.slice Ao128 y461.length co128)) (fun _ hk => trivial)⟩
 have n1_ : Aside0 (Kd.S (Kd.slice 30 k30) 28 (w126.setCell ⟨gb439, 6, none⟩ (.slice Ao128 y461.length co128)) w.heap.size (fun k_ => k_ ≠ gb424) (.slice Ao128 y461.length co128) y461) := ⟨by (with_reducible repeat (first | apply Kd.S_alloc | apply Kd.S_drewN | apply Kd.S_drew)); exact Kd.S_mono (Kd.S_far (p := ⟨gb439, 6, none⟩) (Kd.S_types HO463.out BK439.out (by decide)) (fun _ hk => hk.2) (.slice Ao128 y461.length co128)) (fun _ hk => hk.1)⟩
 have n2_ : Aside0 ((w126.setCell ⟨gb439, 6, none⟩ (.slice Ao128 y461.length co128)).heap[gb423]? = some (.cells #[.int .i64 a0_0, .int .i64 a0_1, .int .i64 a0_2, .slice A0_3 l0_3.length c0_3, .int .i64 a0_4, .int .i64 a0_5, .slice A0_6 l0_6.length c0_6] 26 (0, 0))) := ⟨by (with_reducible repeat (first | refine blk_drewN ?_ _ | refine blk_drew ?_ | refine blk_alloc ?_ _)); refine blk_far ?_ NB423_439.out _; (with_reducible repeat (first | refine blk_drewN ?_ _ | refine blk_drew ?_ | refine blk_alloc ?_ _)); exact BK423.out⟩
 have n3_ : Aside0 ((w126.setCell ⟨gb439, 6, none⟩ (.slice Ao128 y461.length co128)).heap[gb424]? = some (.cells #[.int .u8 a6_0, .int .i64 a6_1, .int .i64 a6_2, .int .i64 a6_3] 30 (0, 0))) := ⟨by (with_reducible repeat (first | refine blk_drewN ?_ _ | refine blk_drew ?_ | refine blk_alloc ?_ _)); refine blk_far ?_ NB424_439.out _; (with_reducible repeat (first | refine blk_drewN ?_ _ | refine blk_drew ?_ | refine blk_alloc ?_ _)); exact BK424.out⟩
 have n4_ : Aside0 ((w126.setCell ⟨gb439, 6, none⟩ (.slice Ao128 y461.length co128)).heap[gb439]? = some (.cells #[.int .i64 t428, .int .i64 t429, .int .i64 t430, .slice Ao37 t431.length co37, .int .i64 t434, .int .i64 t435, .slice Ao128 y461.length co128] 26 (0, 0))) := ⟨by (with_reducible repeat (first | refine blk_drewN ?_ _ | refine blk_drew ?_ | refine blk_alloc ?_ _)); refine blk_put (cs := #[.int .i64 t428, .int .i64 t429, .int .i64 t430, .slice Ao37 t431.length co37, .int .i64 t434, .int .i64 t435, .slice Ao38 t436.length co38]) ?_ 6 _ rfl; (with_reducible repeat (first | refine blk_drewN ?_ _ | refine blk_drew ?_ | refine blk_alloc ?_ _)); exact BK439.out⟩
 have n5_ : Aside0 (Below w.heap.size w (w126.setCell ⟨gb439, 6, none⟩ (.slice Ao128 y461.length co128))) := ⟨by repeat (first | (with_reducible first | exact HB.out | apply below_alloc | apply pw_below_drewN | apply below_drew1 | refine below_set ?_ GE423.out | refine below_set ?_ GE424.out | refine below_set ?_ GE439.out) | exact HB.out)⟩
 (try clear HO_440003)
 (try clear HO463)
 (try clear BK423)
 (try clear BK424)
 (try clear BK439)
 (try clear HB)
 generalize (w126.setCell ⟨gb439, 6, none⟩ (.slice Ao128 y461.length co128)) = w130 at n0_ n1_ n2_ n3_ n4_ n5_ ⊢
 have HO_440003 := n0_
 have HO463 := n1_
 have BK423 := n2_
 have BK424 := n3_
 have BK439 := n4_
 have HB := n5_
 clear n0_ n1_ n2_ n3_ n4_ n5_
 have n0_ := Aside0.mk (Kd.R_drew HO_440003.out)
 have n1_ := Aside0.mk (Kd.S_drew HO463.out)
 have n2_ := Aside0.mk (blk_drew BK423.out)
 have n3_ := Aside0.mk (blk_drew BK424.out)
 have n4_ := Aside0.mk (blk_drew BK439.out)
 have n5_ := Aside0.mk (below_drew1 HB.out)
 clear HO_440003
 clear HO463
 clear BK423
 clear BK424
 clear BK439
 clear HB
 have HO_440003 := n0_
 have HO463 := n1_
 have BK423 := n2_
 have BK424 := n3_
 have BK439 := n4_
 have HB := n5_
 clear n0_ n1_ n2_ n3_ n4_ n5_
 refine start_ (n := 7) (S := fun w' => w'.cell? ⟨gb439, 0, none⟩ = some (.int .i64 t428) ∧ w'.cell? ⟨gb439, 1, none⟩ = some (.int .i64 t429) ∧ w'.cell? ⟨gb439, 2, none⟩ = some (.int .i64 t430) ∧ w'.cell? ⟨gb439, 3, none⟩ = some (.slice Ao37 t431.length co37) ∧ w'.cell? ⟨gb439, 4, none⟩ = some (.int .i64 t434) ∧ w'.cell? ⟨gb439, 5, none⟩ = some (.int .i64 t435) ∧ w'.cell? ⟨gb439, 6, none⟩ = some (.slice Ao128 y461.length co128)) (ds := []) #[false, false, false, false, false, false, false] (by kernel_rfl) rfl rfl ⟨(blk_cell BK439.out 0).trans rfl, (blk_cell BK439.out 1).trans rfl, (blk_cell BK439.out 2).trans rfl, (blk_cell BK439.out 3).trans rfl, (blk_cell BK439.out 4).trans rfl, (blk_cell BK439.out 5).trans rfl, (blk_cell BK439.out 6).trans rfl⟩ (fun hHeld => ?_)
 generalize w130.drew = w131 at HO_440003 HO463 BK423 BK424 BK439 HB hHeld ⊢
 refine take_ (i := 0) (N := some 124) (v := ?_) (a' := ?_) #[true, false, false, false, false, false, false] rfl rfl (by kernel_rfl) (fun _ _ _ h => h) (Or.inl ⟨by rfl, ?_⟩) hHeld ?_ ?_
 rotate_left
 {
 rintro w' ⟨s0, s1, s2, s3, s4, s5, s6⟩
 go_simp
 with_reducible rfl
 }
 rotate_left
 {
 simp only [Act.put, List.setIfInBounds_toArray, List.set_cons_zero, List.set_cons_succ, i64_w, i32_w]
 rfl
 }
 refine take_ (i := 3) (N := some 127) (v := ?_) (a' := ?_) #[true, false, false, true, false, false, false] rfl rfl (by kernel_rfl) (fun _ _ _ h => h) (Or.inl ⟨by rfl, ?_⟩) hHeld ?_ ?_
 rotate_left
 {
 rintro w' ⟨s0, s1, s2, s3, s4, s5, s6⟩
 go_simp
 with_reducible rfl
 }
 rotate_left
 {
 simp only [Act.put, List.setIfInBounds_toArray, List.set_cons_zero, List.set_cons_succ, i64_w, i32_w]
 rfl
 }
 refine one_ (i := 1) (N := some 125) #[true, true, false, true, false, false, false] rfl rfl (by kernel_rfl) (by decide) (fun K hK => ?_)
 refine goes_ Try.func12 (by kernel_rfl) rfl #[.agg #[.int .i64 t428, .int .i64 t429, .int .i64 t430, .slice Ao37 t431.length co37, .int .i64 t434, .int .i64 t435, .slice Ao128 y461.length co128]] (by rfl) rfl rfl (by (try simp only [List.map_toArray, List.map_cons, List.map_nil]); first | done | rfl | (simp only [List.length_drop, List.length_take]; rfl)) ?_
 with_reducible refine (ir_Sound.calls t428 t429 t430 _ _ t431 t434 t435 _ _ y461 t464 _ ?side1 ?side2 ?side3 ?side4 A121.out).mono ?_
 (case side1 => repeat (first | exact (Kd.R_reads' HO_440003.out).2.2 | (with_reducible refine Kd.C_alloc ?_ _) | (with_reducible refine Kd.C_drewN ?_ _) | (with_reducible refine Kd.C_drew ?_)))
 (case side2 => exact (Kd.R_reads' HO_440003.out).2.1)
 (case side3 => repeat (first | exact (Kd.S_reads' HO463.out).2.2 | (with_reducible refine Kd.C_alloc ?_ _) | (with_reducible refine Kd.C_drewN ?_ _) | (with_reducible refine Kd.C_drew ?_)))
 (case side4 => exact (Kd.S_reads' HO463.out).2.1)
 rintro e w132 ⟨rfl, hb⟩
 refine ⟨_, rfl, ?_⟩
 have n0_ := Aside0.mk (Kd.R_below (by (with_reducible repeat (first | apply Kd.R_alloc | apply Kd.R_drewN | apply Kd.R_drew)); exact HO_440003.out) hb)
 have n1_ := Aside0.mk (Kd.S_below (by (with_reducible repeat (first | apply Kd.S_alloc | apply Kd.S_drewN | apply Kd.S_drew)); exact HO463.out) hb)
 have n2_ := Aside0.mk (blk_below (g := gb423) (o := .cells #[.int .i64 a0_0, .int .i64 a0_1, .int .i64 a0_2, .slice A0_3 l0_3.length c0_3, .int .i64 a0_4, .int .i64 a0_5, .slice A0_6 l0_6.length c0_6] 26 (0, 0)) (by (with_reducible repeat (first | refine blk_drewN ?_ _ | refine blk_drew ?_ | refine blk_alloc ?_ _)); exact BK423.out) hb)
 have n3_ := Aside0.mk (blk_below (g := gb424) (o := .cells #[.int .u8 a6_0, .int .i64 a6_1, .int .i64 a6_2, .int .i64 a6_3] 30 (0, 0)) (by (with_reducible repeat (first | refine blk_drewN ?_ _ | refine blk_drew ?_ | refine blk_alloc ?_ _)); exact BK424.out) hb)
 have n4_ := Aside0.mk (blk_below (g := gb439) (o := .cells #[.int .i64 t428, .int .i64 t429, .int .i64 t430, .slice Ao37 t431.length co37, .int .i64 t434, .int .i64 t435, .slice Ao128 y461.length co128] 26 (0, 0)) (by (with_reducible repeat (first | refine blk_drewN ?_ _ | refine blk_drew ?_ | refine blk_alloc ?_ _)); exact BK439.out) hb)
 have n5_ := Aside0.mk (below_step (by repeat (first | (with_reducible first | exact HB.out | apply below_alloc | apply pw_below_drewN | apply below_drew1 | refine below_set ?_ GE423.out | refine below_set ?_ GE424.out | refine below_set ?_ GE439.out) | exact HB.out)) hb)
 clear HO_440003
 clear HO463
 clear BK423
 clear BK424
 clear BK439
 clear HB
 have HO_440003 := n0_
 have HO463 := n1_
 have BK423 := n2_
 have BK424 := n3_
 have BK439 := n4_
 have HB := n5_
 clear n0_ n1_ n2_ n3_ n4_ n5_
 (try clear hb)
 (try clear hb2)
 (try clear hk)
 (try clear hi)
 refine hK.out _ _ ⟨(blk_cell BK439.out 0).trans rfl, (blk_cell BK439.out 1).trans rfl, (blk_cell BK439.out 2).trans rfl, (blk_cell BK439.out 3).trans rfl, (blk_cell BK439.out 4).trans rfl, (blk_cell BK439.out 5).trans rfl, (blk_cell BK439.out 6).trans rfl⟩ (fun hHeld => ?_)
 clear hK K
 refine norm_ (a' := ?_) ?_ ?_
 rotate_left
 {
 show Act.put _ (some 125) _ = _
 simp only [Act.put, List.setIfInBounds_toArray, List.set_cons_zero, List.set_cons_succ, i64_w, i32_w]
 rfl
 }
 refine pure_ (i := 2) (N := some 126) (v := ?_) (a' := ?_) #[true, true, true, true, false, false, false] rfl rfl (by kernel_rfl) (fun _ _ _ h => h) (Or.inl ⟨by rfl, ?_⟩) ?_ ?_
 rotate_left
 {
 intro w'
 go_simp
 with_reducible rfl
 }
 rotate_left
 {
 simp only [Act.put, List.setIfInBounds_toArray, List.set_cons_zero, List.set_cons_succ, i64_w, i32_w]
 rfl
 }
 refine one_ (i := 4) (N := some 128) #[true, true, true, true, true, false, false] rfl rfl (by kernel_rfl) (by decide) (fun K hK => ?_)
 refine goes_ Try.func13 (by kernel_rfl) rfl #[.agg #[.int .i64 t428, .int .i64 t429, .int .i64 t430, .slice Ao37 t431.length co37, .int .i64 t434, .int .i64 t435, .slice Ao128 y461.length co128]] (by rfl) rfl rfl (by (try simp only [List.map_toArray, List.map_cons, List.map_nil]); first | done | rfl | (simp only [List.length_drop, List.length_take]; rfl)) ?_
 with_reducible refine (interlockref02_Sound.calls kj28 t428 t429 t430 _ _ t431 t434 t435 _ _ y461 t465 _ ?side1 ?side2 ?side3 ?side4 A122.out).mono ?_
 (case side1 => repeat (first | exact (Kd.R_reads' HO_440003.out).2.2 | (with_reducible refine Kd.C_alloc ?_ _) | (with_reducible refine Kd.C_drewN ?_ _) | (with_reducible refine Kd.C_drew ?_)))
 (case side2 => exact (Kd.R_reads' HO_440003.out).2.1)
 (case side3 => repeat (first | exact (Kd.S_reads' HO463.out).2.2 | (with_reducible refine Kd.C_alloc ?_ _) | (with_reducible refine Kd.C_drewN ?_ _) | (with_reducible refine Kd.C_drew ?_)))
 (case side4 => exact (Kd.S_reads' HO463.out).2.1)
 rintro e w133 ⟨rfl, hb⟩
 refine ⟨_, rfl, ?_⟩
 have n0_ := Aside0.mk (Kd.R_below (by (with_reducible repeat (first | apply Kd.R_alloc | apply Kd.R_drewN | apply Kd.R_drew)); exact HO_440003.out) hb)
 have n1_ := Aside0.mk (Kd.S_below (by (with_reducible repeat (first | apply Kd.S_alloc | apply Kd.S_drewN | apply Kd.S_drew)); exact HO463.out) hb)
 have n2_ := Aside0.mk (blk_below (g := gb423) (o := .cells #[.int .i64 a0_0, .int .i64 a0_1, .int .i64 a0_2, .slice A0_3 l0_3.length c0_3, .int .i64 a0_4, .int .i64 a0_5, .slice A0_6 l0_6.length c0_6] 26 (0, 0)) (by (with_reducible repeat (first | refine blk_drewN ?_ _ | refine blk_drew ?_ | refine blk_alloc ?_ _)); exact BK423.out) hb)
 have n3_ := Aside0.mk (blk_below (g := gb424) (o := .cells #[.int .u8 a6_0, .int .i64 a6_1, .int .i64 a6_2, .int .i64 a6_3] 30 (0, 0)) (by (with_reducible repeat (first | refine blk_drewN ?_ _ | refine blk_drew ?_ | refine blk_alloc ?_ _)); exact BK424.out) hb)
 have n4_ := Aside0.mk (blk_below (g := gb439) (o := .cells #[.int .i64 t428, .int .i64 t429, .int .i64 t430, .slice Ao37 t431.length co37, .int .i64 t434, .int .i64 t435, .slice Ao128 y461.length co128] 26 (0, 0)) (by (with_reducible repeat (first | refine blk_drewN ?_ _ | refine blk_drew ?_ | refine blk_alloc ?_ _)); exact BK439.out) hb)
 have n5_ := Aside0.mk (below_step (by repeat (first | (with_reducible first | exact HB.out | apply below_alloc | apply pw_below_drewN | apply below_drew1 | refine below_set ?_ GE423.out | refine below_set ?_ GE424.out | refine below_set ?_ GE439.out) | exact HB.out)) hb)
 clear HO_440003
 clear HO463
 clear BK423
 clear BK424
 clear BK439
 clear HB
 have HO_440003 := n0_
 have HO463 := n1_
 have BK423 := n2_
 have BK424 := n3_
 have BK439 := n4_
 have HB := n5_
 clear n0_ n1_ n2_ n3_ n4_ n5_
 (try clear hb)
 (try clear hb2)
 (try clear hk)
 (try clear hi)
 refine hK.out _ _ ⟨(blk_cell BK439.out 0).trans rfl, (blk_cell BK439.out 1).trans rfl, (blk_cell BK439.out 2).trans rfl, (blk_cell BK439.out 3).trans rfl, (blk_cell BK439.out 4).trans rfl, (blk_cell BK439.out 5).trans rfl, (blk_cell BK439.out 6).trans rfl⟩ (fun hHeld => ?_)
 clear hK K
 refine norm_ (a' := ?_) ?_ ?_
 rotate_left
 {
 show Act.put _ (some 128) _ = _
 simp only [Act.put, List.setIfInBounds_toArray, List.set_cons_zero, List.set_cons_succ, i64_w, i32_w]
 rfl
 }
 refine pure_ (i := 5) (N := some 129) (v := ?_) (a' := ?_) #[true, true, true, true, true, true, false] rfl rfl (by kernel_rfl) (fun _ _ _ h => h) (Or.inl ⟨by rfl, ?_⟩) ?_ ?_
 rotate_left
 {
 intro w'
 go_simp
 with_reducible rfl
 }
 rotate_left
 {
 simp only [Act.put, List.setIfInBounds_toArray, List.set_cons_zero, List.set_cons_succ, i64_w, i32_w]
 rfl
 }
 refine pure_ (i := 6) (N := some 14) (v := ?_) (a' := ?_) #[true, true, true, true, true, true, true] rfl rfl (by kernel_rfl) (fun _ _ _ h => h) (Or.inl ⟨by rfl, ?_⟩) ?_ ?_
 rotate_left
 {
 intro w'
 go_simp
 with_reducible rfl
 }
 rotate_left
 {
 simp only [Act.put, List.setIfInBounds_toArray, List.set_cons_zero, List.set_cons_succ, i64_w, i32_w]
 rfl
 }
 refine done_ (by kernel_rfl) ?_
 try go_wp2
 go_ret
 exact ⟨by first | rfl | (simp [errW_none, errW_some] <;> rfl) | (simp only [← hji117]; first | rfl | (simp [errW_none, errW_some] <;> rfl)) | (simp [*, errW_none, errW_some] <;> rfl), by repeat (first | (with_reducible first | exact HB.out | apply below_alloc | apply pw_below_drewN | apply below_drew1 | refine below_set ?_ GE423.out | refine below_set ?_ GE424.out | refine below_set ?_ GE439.out) | exact HB.out)⟩
 }
 {
 rw [if_neg c120] at H
 exact absurd H (by simp)
 }
 }
 {
 rw [if_neg c119] at H
 exact absurd H (by simp)
 }
 }
 {
 rw [if_neg c118] at H
 exact absurd H (by simp)
 }
 }
 {
 rw [if_neg c116] at H
 have c116b0 : ((Int.tmod a2 9) == 6) = false := beq_eq_false_iff_ne.mpr c116
 have c116b1 : ((Int.tmod a2 9) != 6) = true := bne_iff_ne.mpr c116
 by_cases c134 : (t436.length : Int) = 0
 {
 rw [if_pos c134] at H
 exact absurd H (by simp)
 }
 {
 rw [if_neg c134] at H
 have c134b0 : ((t436.length : Int) == 0) = false := beq_eq_false_iff_ne.mpr c134
 have c134b1 : ((t436.length : Int) != 0) = true := bne_iff_ne.mpr c134
 have c134b2 : ¬ (t436 = []) := fun h_ => c134 (by rw [h_]; rfl)
 obtain ⟨ji135, hji135⟩ : ∃ j_ : Int, (Int.tmod (wrap64 (a3)) (t436.length : Int)) = j_ := ⟨_, rfl⟩
 replace H : (if 0 ≤ (ji135) then (if (ji135) < (t436.length : Int) then (if ((rd_L4 t436 (ji135)).length : Int) > 0 then (if ((rd_L4 t436 (ji135)).length : Int) = 0 then (none) else (if 0 ≤ (Int.tmod (wrap64 (a4)) ((rd_L4 t436 (ji135)).length : Int)) then (if (Int.tmod (wrap64 (a4)) ((rd_L4 t436 (ji135)).length : Int)) < ((rd_L4 t436 (ji135)).length : Int) then ((some (t436.set ((ji135) : Int).toNat ((rd_L4 t436 (ji135)).set ((Int.tmod (wrap64 (a4)) ((rd_L4 t436 (ji135)).length : Int)) : Int).toNat (⟨a6_0, a6_1, a6_2, a6_3⟩ : S30)) : List (List (S30)))).bind fun y471 => ((ir_Sound.f t428 t429 t430 t431 t434 t435 y471).bind fun t472 => ((interlockref02_Sound.f kj28 t428 t429 t430 t431 t434 t435 y471).bind fun t473 => (some ((wrap64 (t472)) == t473))))) else (none)) else (none))) else ((ir_Sound.f t428 t429 t430 t431 t434 t435 t436).bind fun t474 => ((interlockref02_Sound.f kj28 t428 t429 t430 t431 t434 t435 t436).bind fun t475 => (some ((wrap64 (t474)) == t475))))) else (none)) else (none)) = some r := by first | (rw [hji135] at H; exact H) | (simp only [hji135] at H ⊢; exact H)
 have hji135q : Int.tmod (IntKind.i64.wrap (a3)) (t436.length : Int) = ji135 := by first | (rw [i64_w]; exact hji135) | (simp only [i64_w]; exact hji135)
 by_cases c136 : 0 ≤ (ji135)
 {
 rw [if_pos c136] at H
 have c136b0 : decide (0 ≤ (ji135)) = true := decide_eq_true c136
 clear c136
 by_cases c137 : (ji135) < (t436.length : Int)
 {
 rw [if_pos c137] at H
 have c137b0 : decide ((ji135) < (t436.length : Int)) = true := decide_eq_true c137
 clear c137
 by_cases c138 : ((rd_L4 t436 (ji135)).length : Int) > 0
 {
 rw [if_pos c138] at H
 have c138b0 : decide (0 < ((rd_L4 t436 (ji135)).length : Int)) = true := decide_eq_true c138
 have c138b1 : decide (0 < (rd_L4 t436 (ji135)).length) = true := decide_eq_true (by omega)
 clear c138
 by_cases c139 : ((rd_L4 t436 (ji135)).length : Int) = 0
 {
 rw [if_pos c139] at H
 exact absurd H (by simp)
 }
 {
 rw [if_neg c139] at H
 have c139b0 : (((rd_L4 t436 (ji135)).length : Int) == 0) = false := beq_eq_false_iff_ne.mpr c139
 have c139b1 : (((rd_L4 t436 (ji135)).length : Int) != 0) = true := bne_iff_ne.mpr c139
 have c139b2 : ¬ ((rd_L4 t436 (ji135)) = []) := fun h_ => c139 (by rw [h_]; rfl)
 obtain ⟨ji140, hji140⟩ : ∃ j_ : Int, (Int.tmod (wrap64 (a4)) ((rd_L4 t436 (ji135)).length : Int)) = j_ := ⟨_, rfl⟩
 replace H : (if 0 ≤ (ji140) then (if (ji140) < ((rd_L4 t436 (ji135)).length : Int) then ((some (t436.set ((ji135) : Int).toNat ((rd_L4 t436 (ji135)).set ((ji140) : Int).toNat (⟨a6_0, a6_1, a6_2, a6_3⟩ : S30)) : List (List (S30)))).bind fun y471 => ((ir_Sound.f t428 t429 t430 t431 t434 t435 y471).bind fun t472 => ((interlockref02_Sound.f kj28 t428 t429 t430 t431 t434 t435 y471).bind fun t473 => (some ((wrap64 (t472)) == t473))))) else (none)) else (none)) = some r := by first | (rw [hji140] at H; exact H) | (simp only [hji140] at H ⊢; exact H)
 have hji140q : Int.tmod (IntKind.i64.wrap (a4)) ((rd_L4 t436 (ji135)).length : Int) = ji140 := by first | (rw [i64_w]; exact hji140) | (simp only [i64_w]; exact hji140)
 by_cases c141 : 0 ≤ (ji140)
 {
 rw [if_pos c141] at H
 have c141b0 : decide (0 ≤ (ji140)) = true := decide_eq_true c141
 clear c141
 by_cases c142 : (ji140) < ((rd_L4 t436 (ji135)).length : Int)
 {
 rw [if_pos c142] at H
 have c142b0 : decide ((ji140) < ((rd_L4 t436 (ji135)).length : Int)) = true := decide_eq_true c142
 clear c142
 obtain ⟨y469, hy469⟩ : ∃ y_ : List (S30), y_ = ((rd_L4 t436 (ji135)).set ((ji140) : Int).toNat (⟨a6_0, a6_1, a6_2, a6_3⟩ : S30)) := ⟨_, rfl⟩
 replace H : ((some (t436.set ((ji135) : Int).toNat y469 : List (List (S30)))).bind fun y471 => ((ir_Sound.f t428 t429 t430 t431 t434 t435 y471).bind fun t472 => ((interlockref02_Sound.f kj28 t428 t429 t430 t431 t434 t435 y471).bind fun t473 => (some ((wrap64 (t472)) == t473))))) = some r := by first | (rw [hy469]; with_reducible exact H) | (have H2_ := (Option.bind_some _ _).symm.trans H; rw [hy469]; with_reducible exact H2_) | (have H2_ := (Option.bind_some _ _).symm.trans H; with_reducible exact H2_) | with_reducible exact H | (rw [hy469]; exact H) | exact H
 have Ny469 := Aside0.mk hy469
 clear hy469
 obtain ⟨y471, hy471⟩ : ∃ y_ : List (List (S30)), y_ = (t436.set ((ji135) : Int).toNat y469) := ⟨_, rfl⟩
 replace H : ((ir_Sound.f t428 t429 t430 t431 t434 t435 y471).bind fun t472 => ((interlockref02_Sound.f kj28 t428 t429 t430 t431 t434 t435 y471).bind fun t473 => (some ((wrap64 (t472)) == t473)))) = some r := by first | (rw [hy471]; with_reducible exact H) | (have H2_ := (Option.bind_some _ _).symm.trans H; rw [hy471]; with_reducible exact H2_) | (have H2_ := (Option.bind_some _ _).symm.trans H; with_reducible exact H2_) | with_reducible exact H | (rw [hy471]; exact H) | exact H
 have Ny471 := Aside0.mk hy471
 clear hy471
 replace H := Option.bind_eq_some_iff.mp H
 obtain ⟨t472, A1440, H⟩ := H
 replace H : ((interlockref02_Sound.f kj28 t428 t429 t430 t431 t434 t435 y471).bind fun t473 => (some ((wrap64 (t472)) == t473))) = some r := H
 have A144 := Aside0.mk A1440
 clear A1440
 replace H := Option.bind_eq_some_iff.mp H
 obtain ⟨t473, A1450, H⟩ := H
 replace H : (some ((wrap64 (t472)) == t473)) = some r := H
 have A145 := Aside0.mk A1450
 clear A1450
 obtain rfl := Option.some.inj H
 have hnb146 := NB439_423.out
 have hnc146 := NB423_439.out
 have hnb147 := NB439_424.out
 have hnc147 := NB424_439.out
 have hcz148_0 : wc.cell? ⟨gb439, 0, none⟩ = some (.int .i64 t428) := (blk_cell BK439.out 0).trans rfl
 have hcz148_1 : wc.cell? ⟨gb439, 1, none⟩ = some (.int .i64 t429) := (blk_cell BK439.out 1).trans rfl
 have hcz148_2 : wc.cell? ⟨gb439, 2, none⟩ = some (.int .i64 t430) := (blk_cell BK439.out 2).trans rfl
 have hcz148_3 : wc.cell? ⟨gb439, 3, none⟩ = some (.slice Ao37 t431.length co37) := (blk_cell BK439.out 3).trans rfl
 have hcz148_4 : wc.cell? ⟨gb439, 4, none⟩ = some (.int .i64 t434) := (blk_cell BK439.out 4).trans rfl
 have hcz148_5 : wc.cell? ⟨gb439, 5, none⟩ = some (.int .i64 t435) := (blk_cell BK439.out 5).trans rfl
 have hcz148_6 : wc.cell? ⟨gb439, 6, none⟩ = some (.slice Ao38 t436.length co38) := (blk_cell BK439.out 6).trans rfl
 have hfz148_0 := blk_frozen BK439.out 0
 have hfz148_1 := blk_frozen BK439.out 1
 have hfz148_2 := blk_frozen BK439.out 2
 have hfz148_3 := blk_frozen BK439.out 3
 have hfz148_4 := blk_frozen BK439.out 4
 have hfz148_5 := blk_frozen BK439.out 5
 have hfz148_6 := blk_frozen BK439.out 6
 have p466 : 0 ≤ ((ji135) : Int) := of_decide_eq_true (by first | (with_reducible assumption) | assumption)
 have q466 : (ji135) < (t436.length : Int) := of_decide_eq_true (by first | (with_reducible assumption) | assumption)
 obtain ⟨ad466, A466_0, c466_0, e466, hx466_0, hl466_0, hi466_0⟩ := at_L4 (Kd.S_reads' HO_440006.out).2.2 (ji135) p466 q466
 cases e466
 obtain ⟨ce466, hce466, hMe466, hcc466⟩ := Kd.S_get HO_440006.out [] (ji135) p466 (by first | exact q466 | exact of_decide_eq_true (by first | (with_reducible assumption) | assumption) | (have e_ := (Kd.S_reads' HO_440006.out).1; omega))
 obtain ⟨ve466_0, rfl, ge466_0⟩ := hMe466
 have hv466_0 := hcc466 0 _ rfl
 rw [Nat.add_zero, show ((Kd.slice 30 k30)).sz = 1 from rfl, Nat.mul_one] at hv466_0
 replace hv466_0 := Option.some.inj (hv466_0.symm.trans hx466_0)
 rw [hv466_0] at ge466_0
 have HL466_0 := Aside0.mk (show Kd.R k30 30 _ _ _ _ (rd_L4 t436 (ji135)) from ge466_0)
 clear hv466_0 ge466_0
 have HX466_0 := Aside0.mk hx466_0
 clear hcc466 hce466
 have HR466_0 := Aside0.mk hi466_0
 have HC466_0 := Aside0.mk hl466_0
 clear hi466_0 hl466_0
 replace p466 := eq_true p466
 replace q466 := eq_true q466
 try go_wp2
 have n0_ := Aside0.mk (Kd.R_drew HO_440003.out)
 have n1_ := Aside0.mk (Kd.S_drew HO_440006.out)
 have n2_ := Aside0.mk (Kd.R_drew HL466_0.out)
 have n3_ := Aside0.mk (blk_drew BK423.out)
 have n4_ := Aside0.mk (blk_drew BK424.out)
 have n5_ := Aside0.mk (blk_drew BK439.out)
 have n6_ := Aside0.mk (Kd.C_drew HR466_0.out)
 have n7_ := Aside0.mk (below_drew1 HB.out)
 clear HO_440003
 clear HO_440006
 clear HL466_0
 clear BK423
 clear BK424
 clear BK439
 clear HR466_0
 clear HB
 have HO_440003 := n0_
 have HO_440006 := n1_
 have HL466_0 := n2_
 have BK423 := n3_
 have BK424 := n4_
 have BK439 := n5_
 have HR466_0 := n6_
 have HB := n7_
 clear n0_ n1_ n2_ n3_ n4_ n5_ n6_ n7_
 have p467 : 0 ≤ ((ji135) : Int) := of_decide_eq_true (by first | (with_reducible assumption) | assumption)
 have q467 : (ji135) < (t436.length : Int) := of_decide_eq_true (by first | (with_reducible assumption) | assumption)
 obtain ⟨ad467, A467_0, c467_0, e467, hx467_0, hl467_0, hi467_0⟩ := at_L4 (Kd.S_reads' HO_440006.out).2.2 (ji135) p467 q467
 obtain rfl : ad466 = ad467 := (by injection e467)
 obtain ⟨ce467, hce467, hMe467, hcc467⟩ := Kd.S_get HO_440006.out [] (ji135) p467 (by first | exact q467 | exact of_decide_eq_true (by first | (with_reducible assumption) | assumption) | (have e_ := (Kd.S_reads' HO_440006.out).1; omega))
 obtain ⟨ve467_0, rfl, ge467_0⟩ := hMe467
 have hv467_0 := hcc467 0 _ rfl
 rw [Nat.add_zero, show ((Kd.slice 30 k30)).sz = 1 from rfl, Nat.mul_one] at hv467_0
 replace hv467_0 := Option.some.inj (hv467_0.symm.trans hx467_0)
 rw [hv467_0] at ge467_0
 have HL467_0 := Aside0.mk (show Kd.R k30 30 _ _ _ _ (rd_L4 t436 (ji135)) from ge467_0)
 clear hv467_0 ge467_0
 have HX467_0 := Aside0.mk hx467_0
 clear hcc467 hce467
 have HR467_0 := Aside0.mk hi467_0
 have HC467_0 := Aside0.mk hl467_0
 clear hi467_0 hl467_0
 replace p467 := eq_true p467
 replace q467 := eq_true q467
 have p468 : 0 ≤ ((ji135) : Int) := of_decide_eq_true (by first | (with_reducible assumption) | assumption)
 have q468 : (ji135) < (t436.length : Int) := of_decide_eq_true (by first | (with_reducible assumption) | assumption)
 obtain ⟨ad468, A468_0, c468_0, e468, hx468_0, hl468_0, hi468_0⟩ := at_L4 (Kd.S_reads' HO_440006.out).2.2 (ji135) p468 q468
 obtain rfl : ad466 = ad468 := (by injection e468)
 obtain ⟨ce468, hce468, hMe468, hcc468⟩ := Kd.S_get HO_440006.out [] (ji135) p468 (by first | exact q468 | exact of_decide_eq_true (by first | (with_reducible assumption) | assumption) | (have e_ := (Kd.S_reads' HO_440006.out).1; omega))
 obtain ⟨ve468_0, rfl, ge468_0⟩ := hMe468
 have hv468_0 := hcc468 0 _ rfl
 rw [Nat.add_zero, show ((Kd.slice 30 k30)).sz = 1 from rfl, Nat.mul_one] at hv468_0
 replace hv468_0 := Option.some.inj (hv468_0.symm.trans hx468_0)
 rw [hv468_0] at ge468_0
 have HL468_0 := Aside0.mk (show Kd.R k30 30 _ _ _ _ (rd_L4 t436 (ji135)) from ge468_0)
 clear hv468_0 ge468_0
 have HX468_0 := Aside0.mk hx468_0
 clear hcc468 hce468
 have HR468_0 := Aside0.mk hi468_0
 have HC468_0 := Aside0.mk hl468_0
 clear hi468_0 hl468_0
 replace p468 := eq_true p468
 replace q468 := eq_true q468
 have ea_ := Option.some.inj (hx467_0.symm.trans hx468_0)
 injection ea_ with ea_ en_ ec_
 subst ea_
 subst ec_
 clear en_
 have p143 : 0 ≤ ((ji140) : Int) := of_decide_eq_true (by first | (with_reducible assumption) | assumption)
 have q143 : ((ji140) : Int) < (((rd_L4 t436 (ji135)).length : Int) : Int) := of_decide_eq_true (by first | (with_reducible assumption) | assumption)
 obtain ⟨go143, co143, eo143, gb143, gl143, cl143, HG143⟩ := Kd.R_form HL467_0.out (by omega)
 (first | cases eo143 | (injection eo143 with ea_ en_ ec_; (first | subst ea_ | (injection ea_ with ea_; subst ea_)); subst ec_; clear en_))
 have GB143 := Aside0.mk gb143
 have GG143 := Aside0.mk HG143
 clear gb143 gl143 HG143
 obtain ⟨ce143, hcl143, hM143, hcc143, hfr143⟩ := Kd.R_elem HL467_0.out z30 ((ji140) : Int) p143 q143
 obtain rfl := k30_openM hM143
 have hx143_0 : World.cell? _ ⟨go143, ((ji140) : Int).toNat * 4, none⟩ = some (.int .u8 ((rd_T30 (rd_L4 t436 (ji135)) (ji140)).f0)) := hcc143 0 _ rfl
 have hx143_1 : World.cell? _ ⟨go143, ((ji140) : Int).toNat * 4 + 1, none⟩ = some (.int .i64 ((rd_T30 (rd_L4 t436 (ji135)) (ji140)).f1)) := hcc143 1 _ rfl
 have hx143_2 : World.cell? _ ⟨go143, ((ji140) : Int).toNat * 4 + 2, none⟩ = some (.int .i64 ((rd_T30 (rd_L4 t436 (ji135)) (ji140)).f2)) := hcc143 2 _ rfl
 have hx143_3 : World.cell? _ ⟨go143, ((ji140) : Int).toNat * 4 + 3, none⟩ = some (.int .i64 ((rd_T30 (rd_L4 t436 (ji135)) (ji140)).f3)) := hcc143 3 _ rfl
 have hf143_0 : World.frozen? _ ⟨go143, ((ji140) : Int).toNat * 4, none⟩ = false := hfr143 0
 have hf143_1 : World.frozen? _ ⟨go143, ((ji140) : Int).toNat * 4 + 1, none⟩ = false := hfr143 1
 have hf143_2 : World.frozen? _ ⟨go143, ((ji140) : Int).toNat * 4 + 2, none⟩ = false := hfr143 2
 have hf143_3 : World.frozen? _ ⟨go143, ((ji140) : Int).toNat * 4 + 3, none⟩ = false := hfr143 3
 clear hcl143 hcc143 hfr143 hM143
 replace p143 := eq_true p143
 replace q143 := eq_true q143
 have hq150 : ((ji135) : Int) < (t436.length : Int) := (by have h_ : ((ji135) : Int) < ((t436.length : Int) : Int) := of_decide_eq_true (by first | (with_reducible assumption) | assumption); first | exact h_ | (have e_ := (Kd.S_reads' HO_440006.out).1; omega) | simpa only [List.length_set, List.length_set] using h_)
 obtain ⟨oki150, ce150, hcl150, hM150, hcc150, hok150, hbk150⟩ := Kd.S_borrow HO_440006.out [] ((ji135) : Int) (of_decide_eq_true (by first | (with_reducible assumption) | assumption)) hq150
 obtain ⟨ve150_0, rfl, ge150_0⟩ := hM150
 have hv150 := hcc150 0 _ rfl
 rw [Nat.add_zero, show ((Kd.slice 30 k30)).sz = 1 from rfl, Nat.mul_one] at hv150
 replace hv150 := Option.some.inj (hv150.symm.trans HX467_0.out)
 subst hv150
 clear hcc150 hcl150
 replace ge150_0 := (show Kd.R k30 30 _ _ _ _ (rd_L4 t436 (ji135)) from ge150_0)
 obtain ⟨cf150, hcl150, hN150, hcc150, hfr150⟩ := Kd.R_elem ge150_0 z30 ((ji140) : Int) (of_decide_eq_true (by first | (with_reducible assumption) | assumption)) (by have h_ : ((ji140) : Int) < (((rd_L4 t436 (ji135)).length : Int) : Int) := of_decide_eq_true (by first | (with_reducible assumption) | assumption); first | exact h_ | (have e_ := (Kd.R_reads' HR467_0.out).1; omega) | simpa using h_)
 obtain rfl := k30_openM hN150
 have HP150 := Kd.R_seg ge150_0 ((ji140) : Int) (of_decide_eq_true (by first | (with_reducible assumption) | assumption)) (by have h_ : ((ji140) : Int) < (((rd_L4 t436 (ji135)).length : Int) : Int) := of_decide_eq_true (by first | (with_reducible assumption) | assumption); first | exact h_ | (have e_ := (Kd.R_reads' HR467_0.out).1; omega) | simpa using h_) (seg := [.int .u8 a6_0, .int .i64 a6_1, .int .i64 a6_2, .int .i64 a6_3]) (j := 0) hcl150 hcc150 (show 4 ≤ 4 from by decide) (x' := (⟨a6_0, a6_1, a6_2, a6_3⟩ : S30)) (k30_mkM _ _ _ (⟨a6_0, a6_1, a6_2, a6_3⟩ : S30)) (fun _ hk => hk)
 clear hcl150 hcc150 hfr150 hN150
 rw [← Ny469.out] at HP150
 have HS150 := hbk150 HP150.2 (fun k_ e_ => by injection e_ with e_; subst e_; exact ge150_0.1 _ rfl) (x' := y469) (Kd.M_row HP150.1)
 rw [← Ny471.out] at HS150
 have HQ150 := Aside0.mk HS150
 clear HP150 HS150 hbk150 hok150
 refine start_ (n := 17) (S := fun w' => w'.cell? ⟨gb439, 0, none⟩ = some (.int .i64 t428) ∧ w'.cell? ⟨gb439, 1, none⟩ = some (.int .i64 t429) ∧ w'.cell? ⟨gb439, 2, none⟩ = some (.int .i64 t430) ∧ w'.cell? ⟨gb439, 3, none⟩ = some (.slice Ao37 t431.length co37) ∧ w'.cell? ⟨gb439, 4, none⟩ = some (.int .i64 t434) ∧ w'.cell? ⟨gb439, 5, none⟩ = some (.int .i64 t435) ∧ w'.cell? ⟨gb439, 6, none⟩ = some (.slice (some ad466) t436.length co38) ∧ w'.cell? ⟨gb424, 0, none⟩ = some (.int .u8 a6_0) ∧ w'.cell? ⟨gb424, 1, none⟩ = some (.int .i64 a6_1) ∧ w'.cell? ⟨gb424, 2, none⟩ = some (.int .i64 a6_2) ∧ w'.cell? ⟨gb424, 3, none⟩ = some (.int .i64 a6_3) ∧ w'.cell? (ad466.add ((ji135)).toNat) = some (.slice (some ⟨go143, 0, none⟩) (rd_L4 t436 (ji135)).length c467_0) ∧ w'.cell? (ad466.add ((ji135)).toNat) = some (.slice (some ⟨go143, 0, none⟩) (rd_L4 t436 (ji135)).length c467_0)) (ds := [16]) #[false, false, false, false, false, false, false, false, false, false, false, false, false, false, false, false, false] (by kernel_rfl) rfl rfl ⟨(blk_cell BK439.out 0).trans rfl, (blk_cell BK439.out 1).trans rfl, (blk_cell BK439.out 2).trans rfl, (blk_cell BK439.out 3).trans rfl, (blk_cell BK439.out 4).trans rfl, (blk_cell BK439.out 5).trans rfl, (blk_cell BK439.out 6).trans rfl, (blk_cell BK424.out 0).trans rfl, (blk_cell BK424.out 1).trans rfl, (blk_cell BK424.out 2).trans rfl, (blk_cell BK424.out 3).trans rfl, hx467_0, hx468_0⟩ (fun hHeld => ?_); refine with_tabW interlocklaw02_IrSounds.tab14 interlocklaw02_IrSounds.bits14 (fun HT_ HW_ => ?_)
 generalize wc.drew = w149 at HO_440003 HO_440006 HL466_0 BK423 BK424 BK439 HR466_0 HB GG143 HL467_0 HL468_0 HQ150 HR467_0 HR468_0 HX467_0 HX468_0 hf143_0 hf143_1 hf143_2 hf143_3 hx143_0 hx143_1 hx143_2 hx143_3 hx467_0 hx468_0 hHeld ⊢
 refine pure_ (i := 0) (N := some 69) (v := ?_) (a' := ?_) #[true, false, false, false, false, false, false, false, false, false, false, false, false, false, false, false, false] rfl rfl (any_of HT_.out (by kernel_rfl)) (fun _ _ _ h => h) (Or.inl ⟨by rfl, ?_⟩) ?_ ?_
 rotate_left
 {
 intro w'
 go_simp
 with_reducible rfl
 }
 rotate_left
 {
 simp only [Act.put, List.setIfInBounds_toArray, List.set_cons_zero, List.set_cons_succ, i64_w, i32_w]
 rfl
 }
 refine pure_ (i := 2) (N := some 71) (v := ?_) (a' := ?_) #[true, false, true, false, false, false, false, false, false, false, false, false, false, false, false, false, false] rfl rfl (any_of HT_.out (by kernel_rfl)) (fun _ _ _ h => h) (Or.inl ⟨by rfl, ?_⟩) ?_ ?_
 rotate_left
 {
 intro w'
 go_simp
 with_reducible rfl
 }
 rotate_left
 {
 simp only [Act.put, List.setIfInBounds_toArray, List.set_cons_zero, List.set_cons_succ, i64_w, i32_w]
 rfl
 }
 refine pure_ (i := 5) (N := some 74) (v := ?_) (a' := ?_) #[true, false, true, false, false, true, false, false, false, false, false, false, false, false, false, false, false] rfl rfl (any_of HT_.out (by kernel_rfl)) (fun _ _ _ h => h) (Or.inl ⟨by rfl, ?_⟩) ?_ ?_
 rotate_left
 {
 intro w'
 go_simp
 with_reducible rfl
 }
 rotate_left
 {
 simp only [Act.put, List.setIfInBounds_toArray, List.set_cons_zero, List.set_cons_succ, i64_w, i32_w]
 rfl
 }
 refine pure_ (i := 6) (N := some 75) (v := ?_) (a' := ?_) #[true, false, true, false, false, true, true, false, false, false, false, false, false, false, false, false, false] rfl rfl (any_of HT_.out (by kernel_rfl)) (fun _ _ _ h => h) (Or.inl ⟨by rfl, ?_⟩) ?_ ?_
 rotate_left
 {
 intro w'
 go_simp
 with_reducible rfl
 }
 rotate_left
 {
 simp only [Act.put, List.setIfInBounds_toArray, List.set_cons_zero, List.set_cons_succ, i64_w, i32_w]
 rfl
 }
 refine pure_ (i := 7) (N := some 76) (v := ?_) (a' := ?_) #[true, false, true, false, false, true, true, true, false, false, false, false, false, false, false, false, false] rfl rfl (any_of HT_.out (by kernel_rfl)) (fun _ _ _ h => h) (Or.inl ⟨by rfl, ?_⟩) ?_ ?_
 rotate_left
 {
 intro w'
 go_simp
 with_reducible rfl
 }
 rotate_left
 {
 simp only [Act.put, List.setIfInBounds_toArray, List.set_cons_zero, List.set_cons_succ, i64_w, i32_w]
 rfl
 }
 refine pure_ (i := 9) (N := some 78) (v := ?_) (a' := ?_) #[true, false, true, false, false, true, true, true, false, true, false, false, false, false, false, false, false] rfl rfl (any_of HT_.out (by kernel_rfl)) (fun _ _ _ h => h) (Or.inl ⟨by rfl, ?_⟩) ?_ ?_
 rotate_left
 {
 intro w'
 go_simp
 with_reducible rfl
 }
 rotate_left
 {
 simp only [Act.put, List.setIfInBounds_toArray, List.set_cons_zero, List.set_cons_succ, i64_w, i32_w]
 rfl
 }
 refine take_ (i := 1) (N := some 70) (v := ?_) (a' := ?_) #[true, true, true, false, false, true, true, true, false, true, false, false, false, false, false, false, false] rfl rfl (take_ofW HT_.out HW_.out (by kernel_rfl)) (fun _ _ _ h => h) (Or.inl ⟨by rfl, ?_⟩) hHeld ?_ ?_
 rotate_left
 {
 rintro w' ⟨s0, s1, s2, s3, s4, s5, s6, s7, s8, s9, s10, s11, s12⟩
 go_simp
 with_reducible rfl
 }
 rotate_left
 {
 simp only [Act.put, List.setIfInBounds_toArray, List.set_cons_zero, List.set_cons_succ, i64_w, i32_w]
 rfl
 }
 refine pure_ (i := 3) (N := some 72) (v := ?_) (a' := ?_) #[true, true, true, true, false, true, true, true, false, true, false, false, false, false, false, false, false] rfl rfl (any_of HT_.out (by kernel_rfl)) (fun _ _ _ h => h) (Or.inl ⟨by rfl, ?_⟩) ?_ ?_
 rotate_left
 {
 intro w'
 go_simp
 with_reducible rfl
 }
 rotate_left
 {
 simp only [Act.put, List.setIfInBounds_toArray, List.set_cons_zero, List.set_cons_succ, i64_w, i32_w]
 rfl
 }
 refine take_ (i := 4) (N := some 73) (v := ?_) (a' := ?_) #[true, true, true, true, true, true, true, true, false, true, false, false, false, false, false, false, false] rfl rfl (take_ofW HT_.out HW_.out (by kernel_rfl)) (fun _ _ _ h => h) (Or.inl ⟨by rfl, ?_⟩) hHeld ?_ ?_
 rotate_left
 {
 rintro w' ⟨s0, s1, s2, s3, s4, s5, s6, s7, s8, s9, s10, s11, s12⟩
 go_simp
 with_reducible rfl
 }
 rotate_left
 {
 simp only [Act.put, List.setIfInBounds_toArray, List.set_cons_zero, List.set_cons_succ, i64_w, i32_w]
 rfl
 }
 refine take_ (i := 8) (N := some 77) (v := ?_) (a' := ?_) #[true, true, true, true, true, true, true, true, true, true, false, false, false, false, false, false, false] rfl rfl (take_ofW HT_.out HW_.out (by kernel_rfl)) (fun _ _ _ h => h) (Or.inl ⟨by rfl, ?_⟩) hHeld ?_ ?_
 rotate_left
 {
 rintro w' ⟨s0, s1, s2, s3, s4, s5, s6, s7, s8, s9, s10, s11, s12⟩
 go_simp
 with_reducible rfl
 }
 rotate_left
 {
 simp only [Act.put, List.setIfInBounds_toArray, List.set_cons_zero, List.set_cons_succ, i64_w, i32_w]
 rfl
 }
 refine pure_ (i := 10) (N := some 79) (v := ?_) (a' := ?_) #[true, true, true, true, true, true, true, true, true, true, true, false, false, false, false, false, false] rfl rfl (any_of HT_.out (by kernel_rfl)) (fun _ _ _ h => h) (Or.inl ⟨by rfl, ?_⟩) ?_ ?_
 rotate_left
 {
 intro w'
 go_simp
 with_reducible rfl
 }
 rotate_left
 {
 simp only [Act.put, List.setIfInBounds_toArray, List.set_cons_zero, List.set_cons_succ, i64_w, i32_w]
 rfl
 }
 refine take_ (i := 11) (N := some 80) (v := ?_) (a' := ?_) #[true, true, true, true, true, true, true, true, true, true, true, true, false, false, false, false, false] rfl rfl (take_ofW HT_.out HW_.out (by kernel_rfl)) (fun _ _ _ h => h) (Or.inl ⟨by rfl, ?_⟩) hHeld ?_ ?_
 rotate_left
 {
 rintro w' ⟨s0, s1, s2, s3, s4, s5, s6, s7, s8, s9, s10, s11, s12⟩
 go_simp
 with_reducible rfl
 }
 rotate_left
 {
 simp only [Act.put, List.setIfInBounds_toArray, List.set_cons_zero, List.set_cons_succ, i64_w, i32_w]
 rfl
 }
 refine pure_ (i := 12) (N := some 81) (v := ?_) (a' := ?_) #[true, true, true, true, true, true, true, true, true, true, true, true, true, false, false, false, false] rfl rfl (any_of HT_.out (by kernel_rfl)) (fun _ _ _ h => h) (Or.inl ⟨by rfl, ?_⟩) ?_ ?_
 rotate_left
 {
 intro w'
 go_simp
 with_reducible rfl
 }
 rotate_left
 {
 simp only [Act.put, List.setIfInBounds_toArray, List.set_cons_zero, List.set_cons_succ, i64_w, i32_w]
 rfl
 }
 refine pure_ (i := 13) (N := some 82) (v := ?_) (a' := ?_) #[true, true, true, true, true, true, true, true, true, true, true, true, true, true, false, false, false] rfl rfl (any_of HT_.out (by kernel_rfl)) (fun _ _ _ h => h) (Or.inl ⟨by rfl, ?_⟩) ?_ ?_
 rotate_left
 {
 intro w'
 go_simp
 with_reducible rfl
 }
 rotate_left
 {
 simp only [Act.put, List.setIfInBounds_toArray, List.set_cons_zero, List.set_cons_succ, i64_w, i32_w]
 rfl
 }
 refine take_ (i := 14) (N := some 83) (v := ?_) (a' := ?_) #[true, true, true, true, true, true, true, true, true, true, true, true, true, true, true, false, false] rfl rfl (take_ofW HT_.out HW_.out (by kernel_rfl)) (fun _ _ _ h => h) (Or.inl ⟨by rfl, ?_⟩) hHeld ?_ ?_
 rotate_left
 {
 rintro w' ⟨s0, s1, s2, s3, s4, s5, s6, s7, s8, s9, s10, s11, s12⟩
 go_simp
 with_reducible rfl
 }
 rotate_left
 {
 simp only [Act.put, List.setIfInBounds_toArray, List.set_cons_zero, List.set_cons_succ, i64_w, i32_w]
 rfl
 }
 refine pure_ (i := 15) (N := some 84) (v := ?_) (a' := ?_) #[true, true, true, true, true, true, true, true, true, true, true, true, true, true, true, true, false] rfl rfl (any_of HT_.out (by kernel_rfl)) (fun _ _ _ h => h) (Or.inl ⟨by rfl, ?_⟩) ?_ ?_
 rotate_left
 {
 intro w'
 go_simp
 with_reducible rfl
 }
 rotate_left
 {
 simp only [Act.put, List.setIfInBounds_toArray, List.set_cons_zero, List.set_cons_succ, i64_w, i32_w]
 rfl
 }
 refine last_ (i := 16) (N := none) #[true, true, true, true, true, true, true, true, true, true, true, true, true, true, true, true, true] rfl rfl (one_of HT_.out (by kernel_rfl)) (by decide) (fun K hK => ?_)
 refine skip_ (w1 := ?_) (by rfl) rfl ?_ ?_
 rotate_left
 {
 go_simp
 rfl
 }
 refine hK.out _ _ ?_
 clear hK K
 refine done_ (done_of HT_.out (by kernel_rfl)) ?_
 try go_wp2
 have n0_ : Aside0 (Kd.R (Kd.int .i64) 3 ((((w149.setCell ⟨go143, ((ji140) : Int).toNat * 4, none⟩ (.int .u8 a6_0)).setCell ⟨go143, ((ji140) : Int).toNat * 4 + 1, none⟩ (.int .i64 a6_1)).setCell ⟨go143, ((ji140) : Int).toNat * 4 + 2, none⟩ (.int .i64 a6_2)).setCell ⟨go143, ((ji140) : Int).toNat * 4 + 3, none⟩ (.int .i64 a6_3)) w.heap.size (fun _ => True) (.slice Ao37 t431.length co37) t431) := ⟨by (with_reducible repeat (first | apply Kd.R_alloc | apply Kd.R_drewN | apply Kd.R_drew)); exact Kd.R_mono (Kd.R_far (p := ⟨go143, ((ji140) : Int).toNat * 4 + 3, none⟩) (Kd.R_far (p := ⟨go143, ((ji140) : Int).toNat * 4 + 2, none⟩) (Kd.R_far (p := ⟨go143, ((ji140) : Int).toNat * 4 + 1, none⟩) (Kd.R_far (p := ⟨go143, ((ji140) : Int).toNat * 4, none⟩) (Kd.R_types HO_440003.out GG143.out (by decide)) (fun _ hk => hk.2) (.int .u8 a6_0)) (fun _ hk => hk.2) (.int .i64 a6_1)) (fun _ hk => hk.2) (.int .i64 a6_2)) (fun _ hk => hk.2) (.int .i64 a6_3)) (fun _ hk => trivial)⟩
 have n1_ : Aside0 (Kd.S (Kd.slice 30 k30) 28 ((((w149.setCell ⟨go143, ((ji140) : Int).toNat * 4, none⟩ (.int .u8 a6_0)).setCell ⟨go143, ((ji140) : Int).toNat * 4 + 1, none⟩ (.int .i64 a6_1)).setCell ⟨go143, ((ji140) : Int).toNat * 4 + 2, none⟩ (.int .i64 a6_2)).setCell ⟨go143, ((ji140) : Int).toNat * 4 + 3, none⟩ (.int .i64 a6_3)) w.heap.size (fun k_ => k_ ≠ gb424) (.slice (some ad466) t436.length co38) y471) := ⟨by (with_reducible repeat (first | apply Kd.S_alloc | apply Kd.S_drewN | apply Kd.S_drew)); exact HQ150.out⟩
 have n2_ : Aside0 (((((w149.setCell ⟨go143, ((ji140) : Int).toNat * 4, none⟩ (.int .u8 a6_0)).setCell ⟨go143, ((ji140) : Int).toNat * 4 + 1, none⟩ (.int .i64 a6_1)).setCell ⟨go143, ((ji140) : Int).toNat * 4 + 2, none⟩ (.int .i64 a6_2)).setCell ⟨go143, ((ji140) : Int).toNat * 4 + 3, none⟩ (.int .i64 a6_3)).heap[gb423]? = some (.cells #[.int .i64 a0_0, .int .i64 a0_1, .int .i64 a0_2, .slice A0_3 l0_3.length c0_3, .int .i64 a0_4, .int .i64 a0_5, .slice A0_6 l0_6.length c0_6] 26 (0, 0))) := ⟨by (with_reducible repeat (first | refine blk_drewN ?_ _ | refine blk_drew ?_ | refine blk_alloc ?_ _)); refine blk_far ?_ (by have h_ := Kd.R_ne HL467_0.out BK423.out (by decide); intro e_; exact h_ (by rw [e_]; rfl)) _; (with_reducible repeat (first | refine blk_drewN ?_ _ | refine blk_drew ?_ | refine blk_alloc ?_ _)); refine blk_far ?_ (by have h_ := Kd.R_ne HL467_0.out BK423.out (by decide); intro e_; exact h_ (by rw [e_]; rfl)) _; (with_reducible repeat (first | refine blk_drewN ?_ _ | refine blk_drew ?_ | refine blk_alloc ?_ _)); refine blk_far ?_ (by have h_ := Kd.R_ne HL467_0.out BK423.out (by decide); intro e_; exact h_ (by rw [e_]; rfl)) _; (with_reducible repeat (first | refine blk_drewN ?_ _ | refine blk_drew ?_ | refine blk_alloc ?_ _)); refine blk_far ?_ (by have h_ := Kd.R_ne HL467_0.out BK423.out (by decide); intro e_; exact h_ (by rw [e_]; rfl)) _; (with_reducible repeat (first | refine blk_drewN ?_ _ | refine blk_drew ?_ | refine blk_alloc ?_ _)); exact BK423.out⟩
 have n3_ : Aside0 (((((w149.setCell ⟨go143, ((ji140) : Int).toNat * 4, none⟩ (.int .u8 a6_0)).setCell ⟨go143, ((ji140) : Int).toNat * 4 + 1, none⟩ (.int .i64 a6_1)).setCell ⟨go143, ((ji140) : Int).toNat * 4 + 2, none⟩ (.int .i64 a6_2)).setCell ⟨go143, ((ji140) : Int).toNat * 4 + 3, none⟩ (.int .i64 a6_3)).heap[gb424]? = some (.cells #[.int .u8 a6_0, .int .i64 a6_1, .int .i64 a6_2, .int .i64 a6_3] 30 (0, 0))) := ⟨by (with_reducible repeat (first | refine blk_drewN ?_ _ | refine blk_drew ?_ | refine blk_alloc ?_ _)); refine blk_far ?_ (by have h_ := Kd.R_away HL467_0.out (fun _ hk => hk.1); intro e_; exact h_ (by rw [e_]; rfl)) _; (with_reducible repeat (first | refine blk_drewN ?_ _ | refine blk_drew ?_ | refine blk_alloc ?_ _)); refine blk_far ?_ (by have h_ := Kd.R_away HL467_0.out (fun _ hk => hk.1); intro e_; exact h_ (by rw [e_]; rfl)) _; (with_reducible repeat (first | refine blk_drewN ?_ _ | refine blk_drew ?_ | refine blk_alloc ?_ _)); refine blk_far ?_ (by have h_ := Kd.R_away HL467_0.out (fun _ hk => hk.1); intro e_; exact h_ (by rw [e_]; rfl)) _; (with_reducible repeat (first | refine blk_drewN ?_ _ | refine blk_drew ?_ | refine blk_alloc ?_ _)); refine blk_far ?_ (by have h_ := Kd.R_away HL467_0.out (fun _ hk => hk.1); intro e_; exact h_ (by rw [e_]; rfl)) _; (with_reducible repeat (first | refine blk_drewN ?_ _ | refine blk_drew ?_ | refine blk_alloc ?_ _)); exact BK424.out⟩
 have n4_ : Aside0 (((((w149.setCell ⟨go143, ((ji140) : Int).toNat * 4, none⟩ (.int .u8 a6_0)).setCell ⟨go143, ((ji140) : Int).toNat * 4 + 1, none⟩ (.int .i64 a6_1)).setCell ⟨go143, ((ji140) : Int).toNat * 4 + 2, none⟩ (.int .i64 a6_2)).setCell ⟨go143, ((ji140) : Int).toNat * 4 + 3, none⟩ (.int .i64 a6_3)).heap[gb439]? = some (.cells #[.int .i64 t428, .int .i64 t429, .int .i64 t430, .slice Ao37 t431.length co37, .int .i64 t434, .int .i64 t435, .slice (some ad466) t436.length co38] 26 (0, 0))) := ⟨by (with_reducible repeat (first | refine blk_drewN ?_ _ | refine blk_drew ?_ | refine blk_alloc ?_ _)); refine blk_far ?_ (by have h_ := Kd.R_ne HL467_0.out BK439.out (by decide); intro e_; exact h_ (by rw [e_]; rfl)) _; (with_reducible repeat (first | refine blk_drewN ?_ _ | refine blk_drew ?_ | refine blk_alloc ?_ _)); refine blk_far ?_ (by have h_ := Kd.R_ne HL467_0.out BK439.out (by decide); intro e_; exact h_ (by rw [e_]; rfl)) _; (with_reducible repeat (first | refine blk_drewN ?_ _ | refine blk_drew ?_ | refine blk_alloc ?_ _)); refine blk_far ?_ (by have h_ := Kd.R_ne HL467_0.out BK439.out (by decide); intro e_; exact h_ (by rw [e_]; rfl)) _; (with_reducible repeat (first | refine blk_drewN ?_ _ | refine blk_drew ?_ | refine blk_alloc ?_ _)); refine blk_far ?_ (by have h_ := Kd.R_ne HL467_0.out BK439.out (by decide); intro e_; exact h_ (by rw [e_]; rfl)) _; (with_reducible repeat (first | refine blk_drewN ?_ _ | refine blk_drew ?_ | refine blk_alloc ?_ _)); exact BK439.out⟩
 have n5_ : Aside0 (Below w.heap.size w ((((w149.setCell ⟨go143, ((ji140) : Int).toNat * 4, none⟩ (.int .u8 a6_0)).setCell ⟨go143, ((ji140) : Int).toNat * 4 + 1, none⟩ (.int .i64 a6_1)).setCell ⟨go143, ((ji140) : Int).toNat * 4 + 2, none⟩ (.int .i64 a6_2)).setCell ⟨go143, ((ji140) : Int).toNat * 4 + 3, none⟩ (.int .i64 a6_3))) := ⟨by repeat (first | (with_reducible first | exact HB.out | apply below_alloc | apply pw_below_drewN | apply below_drew1 | refine below_set ?_ GB143.out | refine below_set ?_ GB143.out | refine below_set ?_ GB143.out | refine below_set ?_ GB143.out | refine below_set ?_ GE423.out | refine below_set ?_ GE424.out | refine below_set ?_ GE439.out) | exact HB.out)⟩
 (try clear HO_440003)
 (try clear HO_440006)
 (try clear BK423)
 (try clear BK424)
 (try clear BK439)
 (try clear HB)
 generalize ((((w149.setCell ⟨go143, ((ji140) : Int).toNat * 4, none⟩ (.int .u8 a6_0)).setCell ⟨go143, ((ji140) : Int).toNat * 4 + 1, none⟩ (.int .i64 a6_1)).setCell ⟨go143, ((ji140) : Int).toNat * 4 + 2, none⟩ (.int .i64 a6_2)).setCell ⟨go143, ((ji140) : Int).toNat * 4 + 3, none⟩ (.int .i64 a6_3)) = w152 at n0_ n1_ n2_ n3_ n4_ n5_ ⊢
 have HO_440003 := n0_
 have HO_440006 := n1_
 have BK423 := n2_
 have BK424 := n3_
 have BK439 := n4_
 have HB := n5_
 clear n0_ n1_ n2_ n3_ n4_ n5_
 have n0_ := Aside0.mk (Kd.R_drew HO_440003.out)
 have n1_ := Aside0.mk (Kd.S_drew HO_440006.out)
 have n2_ := Aside0.mk (blk_drew BK423.out)
 have n3_ := Aside0.mk (blk_drew BK424.out)
 have n4_ := Aside0.mk (blk_drew BK439.out)
 have n5_ := Aside0.mk (below_drew1 HB.out)
 clear HO_440003
 clear HO_440006
 clear BK423
 clear BK424
 clear BK439
 clear HB
 have HO_440003 := n0_
 have HO_440006 := n1_
 have BK423 := n2_
 have BK424 := n3_
 have BK439 := n4_
 have HB := n5_
 clear n0_ n1_ n2_ n3_ n4_ n5_
 refine start_ (n := 7) (S := fun w' => w'.cell? ⟨gb439, 0, none⟩ = some (.int .i64 t428) ∧ w'.cell? ⟨gb439, 1, none⟩ = some (.int .i64 t429) ∧ w'.cell? ⟨gb439, 2, none⟩ = some (.int .i64 t430) ∧ w'.cell? ⟨gb439, 3, none⟩ = some (.slice Ao37 t431.length co37) ∧ w'.cell? ⟨gb439, 4, none⟩ = some (.int .i64 t434) ∧ w'.cell? ⟨gb439, 5, none⟩ = some (.int .i64 t435) ∧ w'.cell? ⟨gb439, 6, none⟩ = some (.slice (some ad466) t436.length co38)) (ds := []) #[false, false, false, false, false, false, false] (by kernel_rfl) rfl rfl ⟨(blk_cell BK439.out 0).trans rfl, (blk_cell BK439.out 1).trans rfl, (blk_cell BK439.out 2).trans rfl, (blk_cell BK439.out 3).trans rfl, (blk_cell BK439.out 4).trans rfl, (blk_cell BK439.out 5).trans rfl, (blk_cell BK439.out 6).trans rfl⟩ (fun hHeld => ?_)
 generalize w152.drew = w153 at HO_440003 HO_440006 BK423 BK424 BK439 HB HQ150 hHeld ⊢
 refine take_ (i := 0) (N := some 124) (v := ?_) (a' := ?_) #[true, false, false, false, false, false, false] rfl rfl (by kernel_rfl) (fun _ _ _ h => h) (Or.inl ⟨by rfl, ?_⟩) hHeld ?_ ?_
 rotate_left
 {
 rintro w' ⟨s0, s1, s2, s3, s4, s5, s6⟩
 go_simp
 with_reducible rfl
 }
 rotate_left
 {
 simp only [Act.put, List.setIfInBounds_toArray, List.set_cons_zero, List.set_cons_succ, i64_w, i32_w]
 rfl
 }
 refine take_ (i := 3) (N := some 127) (v := ?_) (a' := ?_) #[true, false, false, true, false, false, false] rfl rfl (by kernel_rfl) (fun _ _ _ h => h) (Or.inl ⟨by rfl, ?_⟩) hHeld ?_ ?_
 rotate_left
 {
 rintro w' ⟨s0, s1, s2, s3, s4, s5, s6⟩
 go_simp
 with_reducible rfl
 }
 rotate_left
 {
 simp only [Act.put, List.setIfInBounds_toArray, List.set_cons_zero, List.set_cons_succ, i64_w, i32_w]
 rfl
 }
 refine one_ (i := 1) (N := some 125) #[true, true, false, true, false, false, false] rfl rfl (by kernel_rfl) (by decide) (fun K hK => ?_)
 refine goes_ Try.func12 (by kernel_rfl) rfl #[.agg #[.int .i64 t428, .int .i64 t429, .int .i64 t430, .slice Ao37 t431.length co37, .int .i64 t434, .int .i64 t435, .slice (some ad466) y471.length co38]] (by rfl) rfl rfl (by (try simp only [List.map_toArray, List.map_cons, List.map_nil]); first | done | (rw [show y471.length = t436.length from (Kd.S_reads' HO_440006.out).1.symm] <;> rfl) | rfl | (simp only [List.length_drop, List.length_take]; rfl)) ?_
 with_reducible refine (ir_Sound.calls t428 t429 t430 _ _ t431 t434 t435 _ _ y471 t472 _ ?side1 ?side2 ?side3 ?side4 A144.out).mono ?_
 (case side1 => repeat (first | exact (Kd.R_reads' HO_440003.out).2.2 | (with_reducible refine Kd.C_alloc ?_ _) | (with_reducible refine Kd.C_drewN ?_ _) | (with_reducible refine Kd.C_drew ?_)))
 (case side2 => exact (Kd.R_reads' HO_440003.out).2.1)
 (case side3 => repeat (first | exact (Kd.S_reads' HO_440006.out).2.2 | (with_reducible refine Kd.C_alloc ?_ _) | (with_reducible refine Kd.C_drewN ?_ _) | (with_reducible refine Kd.C_drew ?_)))
 (case side4 => rw [show y471.length = t436.length from (Kd.S_reads' HO_440006.out).1.symm]; exact (Kd.S_reads' HO_440006.out).2.1)
 rintro e w154 ⟨rfl, hb⟩
 refine ⟨_, rfl, ?_⟩
 have n0_ := Aside0.mk (Kd.R_below (by (with_reducible repeat (first | apply Kd.R_alloc | apply Kd.R_drewN | apply Kd.R_drew)); exact HO_440003.out) hb)
 have n1_ := Aside0.mk (Kd.S_below (by (with_reducible repeat (first | apply Kd.S_alloc | apply Kd.S_drewN | apply Kd.S_drew)); exact HO_440006.out) hb)
 have n2_ := Aside0.mk (blk_below (g := gb423) (o := .cells #[.int .i64 a0_0, .int .i64 a0_1, .int .i64 a0_2, .slice A0_3 l0_3.length c0_3, .int .i64 a0_4, .int .i64 a0_5, .slice A0_6 l0_6.length c0_6] 26 (0, 0)) (by (with_reducible repeat (first | refine blk_drewN ?_ _ | refine blk_drew ?_ | refine blk_alloc ?_ _)); exact BK423.out) hb)
 have n3_ := Aside0.mk (blk_below (g := gb424) (o := .cells #[.int .u8 a6_0, .int .i64 a6_1, .int .i64 a6_2, .int .i64 a6_3] 30 (0, 0)) (by (with_reducible repeat (first | refine blk_drewN ?_ _ | refine blk_drew ?_ | refine blk_alloc ?_ _)); exact BK424.out) hb)
 have n4_ := Aside0.mk (blk_below (g := gb439) (o := .cells #[.int .i64 t428, .int .i64 t429, .int .i64 t430, .slice Ao37 t431.length co37, .int .i64 t434, .int .i64 t435, .slice (some ad466) t436.length co38] 26 (0, 0)) (by (with_reducible repeat (first | refine blk_drewN ?_ _ | refine blk_drew ?_ | refine blk_alloc ?_ _)); exact BK439.out) hb)
 have n5_ := Aside0.mk (below_step (by repeat (first | (with_reducible first | exact HB.out | apply below_alloc | apply pw_below_drewN | apply below_drew1 | refine below_set ?_ GE423.out | refine below_set ?_ GE424.out | refine below_set ?_ GE439.out) | exact HB.out)) hb)
 clear HO_440003
 clear HO_440006
 clear BK423
 clear BK424
 clear BK439
 clear HB
 have HO_440003 := n0_
 have HO_440006 := n1_
 have BK423 := n2_
 have BK424 := n3_
 have BK439 := n4_
 have HB := n5_
 clear n0_ n1_ n2_ n3_ n4_ n5_
 (try clear hb)
 (try clear hb2)
 (try clear hk)
 (try clear hi)
 refine hK.out _ _ ⟨(blk_cell BK439.out 0).trans rfl, (blk_cell BK439.out 1).trans rfl, (blk_cell BK439.out 2).trans rfl, (blk_cell BK439.out 3).trans rfl, (blk_cell BK439.out 4).trans rfl, (blk_cell BK439.out 5).trans rfl, (blk_cell BK439.out 6).trans rfl⟩ (fun hHeld => ?_)
 clear hK K
 refine norm_ (a' := ?_) ?_ ?_
 rotate_left
 {
 show Act.put _ (some 125) _ = _
 simp only [Act.put, List.setIfInBounds_toArray, List.set_cons_zero, List.set_cons_succ, i64_w, i32_w]
 rfl
 }
 refine pure_ (i := 2) (N := some 126) (v := ?_) (a' := ?_) #[true, true, true, true, false, false, false] rfl rfl (by kernel_rfl) (fun _ _ _ h => h) (Or.inl ⟨by rfl, ?_⟩) ?_ ?_
 rotate_left
 {
 intro w'
 go_simp
 with_reducible rfl
 }
 rotate_left
 {
 simp only [Act.put, List.setIfInBounds_toArray, List.set_cons_zero, List.set_cons_succ, i64_w, i32_w]
 rfl
 }
 refine one_ (i := 4) (N := some 128) #[true, true, true, true, true, false, false] rfl rfl (by kernel_rfl) (by decide) (fun K hK => ?_)
 refine goes_ Try.func13 (by kernel_rfl) rfl #[.agg #[.int .i64 t428, .int .i64 t429, .int .i64 t430, .slice Ao37 t431.length co37, .int .i64 t434, .int .i64 t435, .slice (some ad466) y471.length co38]] (by rfl) rfl rfl (by (try simp only [List.map_toArray, List.map_cons, List.map_nil]); first | done | (rw [show y471.length = t436.length from (Kd.S_reads' HO_440006.out).1.symm] <;> rfl) | rfl | (simp only [List.length_drop, List.length_take]; rfl)) ?_
 with_reducible refine (interlockref02_Sound.calls kj28 t428 t429 t430 _ _ t431 t434 t435 _ _ y471 t473 _ ?side1 ?side2 ?side3 ?side4 A145.out).mono ?_
 (case side1 => repeat (first | exact (Kd.R_reads' HO_440003.out).2.2 | (with_reducible refine Kd.C_alloc ?_ _) | (with_reducible refine Kd.C_drewN ?_ _) | (with_reducible refine Kd.C_drew ?_)))
 (case side2 => exact (Kd.R_reads' HO_440003.out).2.1)
 (case side3 => repeat (first | exact (Kd.S_reads' HO_440006.out).2.2 | (with_reducible refine Kd.C_alloc ?_ _) | (with_reducible refine Kd.C_drewN ?_ _) | (with_reducible refine Kd.C_drew ?_)))
 (case side4 => rw [show y471.length = t436.length from (Kd.S_reads' HO_440006.out).1.symm]; exact (Kd.S_reads' HO_440006.out).2.1)
 rintro e w155 ⟨rfl, hb⟩
 refine ⟨_, rfl, ?_⟩
 have n0_ := Aside0.mk (Kd.R_below (by (with_reducible repeat (first | apply Kd.R_alloc | apply Kd.R_drewN | apply Kd.R_drew)); exact HO_440003.out) hb)
 have n1_ := Aside0.mk (Kd.S_below (by (with_reducible repeat (first | apply Kd.S_alloc | apply Kd.S_drewN | apply Kd.S_drew)); exact HO_440006.out) hb)
 have n2_ := Aside0.mk (blk_below (g := gb423) (o := .cells #[.int .i64 a0_0, .int .i64 a0_1, .int .i64 a0_2, .slice A0_3 l0_3.length c0_3, .int .i64 a0_4, .int .i64 a0_5, .slice A0_6 l0_6.length c0_6] 26 (0, 0)) (by (with_reducible repeat (first | refine blk_drewN ?_ _ | refine blk_drew ?_ | refine blk_alloc ?_ _)); exact BK423.out) hb)
 have n3_ := Aside0.mk (blk_below (g := gb424) (o := .cells #[.int .u8 a6_0, .int .i64 a6_1, .int .i64 a6_2, .int .i64 a6_3] 30 (0, 0)) (by (with_reducible repeat (first | refine blk_drewN ?_ _ | refine blk_drew ?_ | refine blk_alloc ?_ _)); exact BK424.out) hb)
 have n4_ := Aside0.mk (blk_below (g := gb439) (o := .cells #[.int .i64 t428, .int .i64 t429, .int .i64 t430, .slice Ao37 t431.length co37, .int .i64 t434, .int .i64 t435, .slice (some ad466) t436.length co38] 26 (0, 0)) (by (with_reducible repeat (first | refine blk_drewN ?_ _ | refine blk_drew ?_ | refine blk_alloc ?_ _)); exact BK439.out) hb)
 have n5_ := Aside0.mk (below_step (by repeat (first | (with_reducible first | exact HB.out | apply below_alloc | apply pw_below_drewN | apply below_drew1 | refine below_set ?_ GE423.out | refine below_set ?_ GE424.out | refine below_set ?_ GE439.out) | exact HB.out)) hb)
 clear HO_440003
 clear HO_440006
 clear BK423
 clear BK424
 clear BK439
 clear HB
 have HO_440003 := n0_
 have HO_440006 := n1_
 have BK423 := n2_
 have BK424 := n3_
 have BK439 := n4_
 have HB := n5_
 clear n0_ n1_ n2_ n3_ n4_ n5_
 (try clear hb)
 (try clear hb2)
 (try clear hk)
 (try clear hi)
 refine hK.out _ _ ⟨(blk_cell BK439.out 0).trans rfl, (blk_cell BK439.out 1).trans rfl, (blk_cell BK439.out 2).trans rfl, (blk_cell BK439.out 3).trans rfl, (blk_cell BK439.out 4).trans rfl, (blk_cell BK439.out 5).trans rfl, (blk_cell BK439.out 6).trans rfl⟩ (fun hHeld => ?_)
 clear hK K
 refine norm_ (a' := ?_) ?_ ?_
 rotate_left
 {
 show Act.put _ (some 128) _ = _
 simp only [Act.put, List.setIfInBounds_toArray, List.set_cons_zero, List.set_cons_succ, i64_w, i32_w]
 rfl
 }
 refine pure_ (i := 5) (N := some 129) (v := ?_) (a' := ?_) #[true, true, true, true, true, true, false] rfl rfl (by kernel_rfl) (fun _ _ _ h => h) (Or.inl ⟨by rfl, ?_⟩) ?_ ?_
 rotate_left
 {
 intro w'
 go_simp
 with_reducible rfl
 }
 rotate_left
 {
 simp only [Act.put, List.setIfInBounds_toArray, List.set_cons_zero, List.set_cons_succ, i64_w, i32_w]
 rfl
 }
 refine pure_ (i := 6) (N := some 14) (v := ?_) (a' := ?_) #[true, true, true, true, true, true, true] rfl rfl (by kernel_rfl) (fun _ _ _ h => h) (Or.inl ⟨by rfl, ?_⟩) ?_ ?_
 rotate_left
 {
 intro w'
 go_simp
 with_reducible rfl
 }
 rotate_left
 {
 simp only [Act.put, List.setIfInBounds_toArray, List.set_cons_zero, List.set_cons_succ, i64_w, i32_w]
 rfl
 }
 refine done_ (by kernel_rfl) ?_
 try go_wp2
 go_ret
 exact ⟨by first | rfl | (simp [errW_none, errW_some] <;> rfl) | (simp only [← hji135, ← hji140]; first | rfl | (simp [errW_none, errW_some] <;> rfl)) | (simp [*, errW_none, errW_some] <;> rfl), by repeat (first | (with_reducible first | exact HB.out | apply below_alloc | apply pw_below_drewN | apply below_drew1 | refine below_set ?_ GE423.out | refine below_set ?_ GE424.out | refine below_set ?_ GE439.out) | exact HB.out)⟩
 }
 {
 rw [if_neg c142] at H
 exact absurd H (by simp)
 }
 }
 {
 rw [if_neg c141] at H
 exact absurd H (by simp)
 }
 }
 }
 {
 rw [if_neg c138] at H
 have c138b0 : decide (0 < ((rd_L4 t436 (ji135)).length : Int)) = false := decide_eq_false c138
 have c138b1 : decide (0 < (rd_L4 t436 (ji135)).length) = false := decide_eq_false (by omega)
 clear c138
 replace H := Option.bind_eq_some_iff.mp H
 obtain ⟨t474, A1560, H⟩ := H
 replace H : ((interlockref02_Sound.f kj28 t428 t429 t430 t431 t434 t435 t436).bind fun t475 => (some ((wrap64 (t474)) == t475))) = some r := H
 have A156 := Aside0.mk A1560
 clear A1560
 replace H := Option.bind_eq_some_iff.mp H
 obtain ⟨t475, A1570, H⟩ := H
 replace H : (some ((wrap64 (t474)) == t475)) = some r := H
 have A157 := Aside0.mk A1570
 clear A1570
 obtain rfl := Option.some.inj H
 have hnb158 := NB439_423.out
 have hnc158 := NB423_439.out
 have hnb159 := NB439_424.out
 have hnc159 := NB424_439.out
 have hcz160_0 : wc.cell? ⟨gb439, 0, none⟩ = some (.int .i64 t428) := (blk_cell BK439.out 0).trans rfl
 have hcz160_1 : wc.cell? ⟨gb439, 1, none⟩ = some (.int .i64 t429) := (blk_cell BK439.out 1).trans rfl
 have hcz160_2 : wc.cell? ⟨gb439, 2, none⟩ = some (.int .i64 t430) := (blk_cell BK439.out 2).trans rfl
 have hcz160_3 : wc.cell? ⟨gb439, 3, none⟩ = some (.slice Ao37 t431.length co37) := (blk_cell BK439.out 3).trans rfl
 have hcz160_4 : wc.cell? ⟨gb439, 4, none⟩ = some (.int .i64 t434) := (blk_cell BK439.out 4).trans rfl
 have hcz160_5 : wc.cell? ⟨gb439, 5, none⟩ = some (.int .i64 t435) := (blk_cell BK439.out 5).trans rfl
 have hcz160_6 : wc.cell? ⟨gb439, 6, none⟩ = some (.slice Ao38 t436.length co38) := (blk_cell BK439.out 6).trans rfl
 have hfz160_0 := blk_frozen BK439.out 0
 have hfz160_1 := blk_frozen BK439.out 1
 have hfz160_2 := blk_frozen BK439.out 2
 have hfz160_3 := blk_frozen BK439.out 3
 have hfz160_4 := blk_frozen BK439.out 4
 have hfz160_5 := blk_frozen BK439.out 5
 have hfz160_6 := blk_frozen BK439.out 6
 have p466 : 0 ≤ ((ji135) : Int) := of_decide_eq_true (by first | (with_reducible assumption) | assumption)
 have q466 : (ji135) < (t436.length : Int) := of_decide_eq_true (by first | (with_reducible assumption) | assumption)
 obtain ⟨ad466, A466_0, c466_0, e466, hx466_0, hl466_0, hi466_0⟩ := at_L4 (Kd.S_reads' HO_440006.out).2.2 (ji135) p466 q466
 cases e466
 obtain ⟨ce466, hce466, hMe466, hcc466⟩ := Kd.S_get HO_440006.out [] (ji135) p466 (by first | exact q466 | exact of_decide_eq_true (by first | (with_reducible assumption) | assumption) | (have e_ := (Kd.S_reads' HO_440006.out).1; omega))
 obtain ⟨ve466_0, rfl, ge466_0⟩ := hMe466
 have hv466_0 := hcc466 0 _ rfl
 rw [Nat.add_zero, show ((Kd.slice 30 k30)).sz = 1 from rfl, Nat.mul_one] at hv466_0
 replace hv466_0 := Option.some.inj (hv466_0.symm.trans hx466_0)
 rw [hv466_0] at ge466_0
 have HL466_0 := Aside0.mk (show Kd.R k30 30 _ _ _ _ (rd_L4 t436 (ji135)) from ge466_0)
 clear hv466_0 ge466_0
 have HX466_0 := Aside0.mk hx466_0
 clear hcc466 hce466
 have HR466_0 := Aside0.mk hi466_0
 have HC466_0 := Aside0.mk hl466_0
 clear hi466_0 hl466_0
 replace p466 := eq_true p466
 replace q466 := eq_true q466
 try go_wp2
 have n0_ := Aside0.mk (Kd.R_drew HO_440003.out)
 have n1_ := Aside0.mk (Kd.S_drew HO_440006.out)
 have n2_ := Aside0.mk (Kd.R_drew HL466_0.out)
 have n3_ := Aside0.mk (blk_drew BK423.out)
 have n4_ := Aside0.mk (blk_drew BK424.out)
 have n5_ := Aside0.mk (blk_drew BK439.out)
 have n6_ := Aside0.mk (Kd.C_drew HR466_0.out)
 have n7_ := Aside0.mk (below_drew1 HB.out)
 clear HO_440003
 clear HO_440006
 clear HL466_0
 clear BK423
 clear BK424
 clear BK439
 clear HR466_0
 clear HB
 have HO_440003 := n0_
 have HO_440006 := n1_
 have HL466_0 := n2_
 have BK423 := n3_
 have BK424 := n4_
 have BK439 := n5_
 have HR466_0 := n6_
 have HB := n7_
 clear n0_ n1_ n2_ n3_ n4_ n5_ n6_ n7_
 refine start_ (n := 7) (S := fun w' => w'.cell? ⟨gb439, 0, none⟩ = some (.int .i64 t428) ∧ w'.cell? ⟨gb439, 1, none⟩ = some (.int .i64 t429) ∧ w'.cell? ⟨gb439, 2, none⟩ = some (.int .i64 t430) ∧ w'.cell? ⟨gb439, 3, none⟩ = some (.slice Ao37 t431.length co37) ∧ w'.cell? ⟨gb439, 4, none⟩ = some (.int .i64 t434) ∧ w'.cell? ⟨gb439, 5, none⟩ = some (.int .i64 t435) ∧ w'.cell? ⟨gb439, 6, none⟩ = some (.slice (some ad466) t436.length co38)) (ds := []) #[false, false, false, false, false, false, false] (by kernel_rfl) rfl rfl ⟨(blk_cell BK439.out 0).trans rfl, (blk_cell BK439.out 1).trans rfl, (blk_cell BK439.out 2).trans rfl, (blk_cell BK439.out 3).trans rfl, (blk_cell BK439.out 4).trans rfl, (blk_cell BK439.out 5).trans rfl, (blk_cell BK439.out 6).trans rfl⟩ (fun hHeld => ?_)
 generalize wc.drew = w161 at HO_440003 HO_440006 HL466_0 BK423 BK424 BK439 HR466_0 HB hHeld ⊢
 refine take_ (i := 0) (N := some 124) (v := ?_) (a' := ?_) #[true, false, false, false, false, false, false] rfl rfl (by kernel_rfl) (fun _ _ _ h => h) (Or.inl ⟨by rfl, ?_⟩) hHeld ?_ ?_
 rotate_left
 {
 rintro w' ⟨s0, s1, s2, s3, s4, s5, s6⟩
 go_simp
 with_reducible rfl
 }
 rotate_left
 {
 simp only [Act.put, List.setIfInBounds_toArray, List.set_cons_zero, List.set_cons_succ, i64_w, i32_w]
 rfl
 }
 refine take_ (i := 3) (N := some 127) (v := ?_) (a' := ?_) #[true, false, false, true, false, false, false] rfl rfl (by kernel_rfl) (fun _ _ _ h => h) (Or.inl ⟨by rfl, ?_⟩) hHeld ?_ ?_
 rotate_left
 {
 rintro w' ⟨s0, s1, s2, s3, s4, s5, s6⟩
 go_simp
 with_reducible rfl
 }
 rotate_left
 {
 simp only [Act.put, List.setIfInBounds_toArray, List.set_cons_zero, List.set_cons_succ, i64_w, i32_w]
 rfl
 }
 refine one_ (i := 1) (N := some 125) #[true, true, false, true, false, false, false] rfl rfl (by kernel_rfl) (by decide) (fun K hK => ?_)
 refine goes_ Try.func12 (by kernel_rfl) rfl #[.agg #[.int .i64 t428, .int .i64 t429, .int .i64 t430, .slice Ao37 t431.length co37, .int .i64 t434, .int .i64 t435, .slice (some ad466) t436.length co38]] (by rfl) rfl rfl (by (try simp only [List.map_toArray, List.map_cons, List.map_nil]); first | done | rfl | (simp only [List.length_drop, List.length_take]; rfl)) ?_
 with_reducible refine (ir_Sound.calls t428 t429 t430 _ _ t431 t434 t435 _ _ t436 t474 _ ?side1 ?side2 ?side3 ?side4 A156.out).mono ?_
 (case side1 => repeat (first | exact (Kd.R_reads' HO_440003.out).2.2 | (with_reducible refine Kd.C_alloc ?_ _) | (with_reducible refine Kd.C_drewN ?_ _) | (with_reducible refine Kd.C_drew ?_)))
 (case side2 => exact (Kd.R_reads' HO_440003.out).2.1)
 (case side3 => repeat (first | exact (Kd.S_reads' HO_440006.out).2.2 | (with_reducible refine Kd.C_alloc ?_ _) | (with_reducible refine Kd.C_drewN ?_ _) | (with_reducible refine Kd.C_drew ?_)))
 (case side4 => exact (Kd.S_reads' HO_440006.out).2.1)
 rintro e w162 ⟨rfl, hb⟩
 refine ⟨_, rfl, ?_⟩
 have n0_ := Aside0.mk (Kd.R_below (by (with_reducible repeat (first | apply Kd.R_alloc | apply Kd.R_drewN | apply Kd.R_drew)); exact HO_440003.out) hb)
 have n1_ := Aside0.mk (Kd.S_below (by (with_reducible repeat (first | apply Kd.S_alloc | apply Kd.S_drewN | apply Kd.S_drew)); exact HO_440006.out) hb)
 have n2_ := Aside0.mk (Kd.R_below (by (with_reducible repeat (first | apply Kd.R_alloc | apply Kd.R_drewN | apply Kd.R_drew)); exact HL466_0.out) hb)
 have n3_ := Aside0.mk (blk_below (g := gb423) (o := .cells #[.int .i64 a0_0, .int .i64 a0_1, .int .i64 a0_2, .slice A0_3 l0_3.length c0_3, .int .i64 a0_4, .int .i64 a0_5, .slice A0_6 l0_6.length c0_6] 26 (0, 0)) (by (with_reducible repeat (first | refine blk_drewN ?_ _ | refine blk_drew ?_ | refine blk_alloc ?_ _)); exact BK423.out) hb)
 have n4_ := Aside0.mk (blk_below (g := gb424) (o := .cells #[.int .u8 a6_0, .int .i64 a6_1, .int .i64 a6_2, .int .i64 a6_3] 30 (0, 0)) (by (with_reducible repeat (first | refine blk_drewN ?_ _ | refine blk_drew ?_ | refine blk_alloc ?_ _)); exact BK424.out) hb)
 have n5_ := Aside0.mk (blk_below (g := gb439) (o := .cells #[.int .i64 t428, .int .i64 t429, .int .i64 t430, .slice Ao37 t431.length co37, .int .i64 t434, .int .i64 t435, .slice (some ad466) t436.length co38] 26 (0, 0)) (by (with_reducible repeat (first | refine blk_drewN ?_ _ | refine blk_drew ?_ | refine blk_alloc ?_ _)); exact BK439.out) hb)
 have n6_ := Aside0.mk (Kd.C_below (by repeat (first | (with_reducible exact HR466_0.out) | (with_reducible refine Kd.C_alloc ?_ _) | (with_reducible refine Kd.C_drewN ?_ _) | (with_reducible refine Kd.C_drew ?_) | exact HR466_0.out)) hb)
 have n7_ := Aside0.mk (below_step (by repeat (first | (with_reducible first | exact HB.out | apply below_alloc | apply pw_below_drewN | apply below_drew1 | refine below_set ?_ GE423.out | refine below_set ?_ GE424.out | refine below_set ?_ GE439.out) | exact HB.out)) hb)
 clear HO_440003
 clear HO_440006
 clear HL466_0
 clear BK423
 clear BK424
 clear BK439
 clear HR466_0
 clear HB
 have HO_440003 := n0_
 have HO_440006 := n1_
 have HL466_0 := n2_
 have BK423 := n3_
 have BK424 := n4_
 have BK439 := n5_
 have HR466_0 := n6_
 have HB := n7_
 clear n0_ n1_ n2_ n3_ n4_ n5_ n6_ n7_
 (try clear hb)
 (try clear hb2)
 (try clear hk)
 (try clear hi)
 refine hK.out _ _ ⟨(blk_cell BK439.out 0).trans rfl, (blk_cell BK439.out 1).trans rfl, (blk_cell BK439.out 2).trans rfl, (blk_cell BK439.out 3).trans rfl, (blk_cell BK439.out 4).trans rfl, (blk_cell BK439.out 5).trans rfl, (blk_cell BK439.out 6).trans rfl⟩ (fun hHeld => ?_)
 clear hK K
 refine norm_ (a' := ?_) ?_ ?_
 rotate_left
 {
 show Act.put _ (some 125) _ = _
 simp only [Act.put, List.setIfInBounds_toArray, List.set_cons_zero, List.set_cons_succ, i64_w, i32_w]
 rfl
 }
 refine pure_ (i := 2) (N := some 126) (v := ?_) (a' := ?_) #[true, true, true, true, false, false, false] rfl rfl (by kernel_rfl) (fun _ _ _ h => h) (Or.inl ⟨by rfl, ?_⟩) ?_ ?_
 rotate_left
 {
 intro w'
 go_simp
 with_reducible rfl
 }
 rotate_left
 {
 simp only [Act.put, List.setIfInBounds_toArray, List.set_cons_zero, List.set_cons_succ, i64_w, i32_w]
 rfl
 }
 refine one_ (i := 4) (N := some 128) #[true, true, true, true, true, false, false] rfl rfl (by kernel_rfl) (by decide) (fun K hK => ?_)
 refine goes_ Try.func13 (by kernel_rfl) rfl #[.agg #[.int .i64 t428, .int .i64 t429, .int .i64 t430, .slice Ao37 t431.length co37, .int .i64 t434, .int .i64 t435, .slice (some ad466) t436.length co38]] (by rfl) rfl rfl (by (try simp only [List.map_toArray, List.map_cons, List.map_nil]); first | done | rfl | (simp only [List.length_drop, List.length_take]; rfl)) ?_
 with_reducible refine (interlockref02_Sound.calls kj28 t428 t429 t430 _ _ t431 t434 t435 _ _ t436 t475 _ ?side1 ?side2 ?side3 ?side4 A157.out).mono ?_
 (case side1 => repeat (first | exact (Kd.R_reads' HO_440003.out).2.2 | (with_reducible refine Kd.C_alloc ?_ _) | (with_reducible refine Kd.C_drewN ?_ _) | (with_reducible refine Kd.C_drew ?_)))
 (case side2 => exact (Kd.R_reads' HO_440003.out).2.1)
 (case side3 => repeat (first | exact (Kd.S_reads' HO_440006.out).2.2 | (with_reducible refine Kd.C_alloc ?_ _) | (with_reducible refine Kd.C_drewN ?_ _) | (with_reducible refine Kd.C_drew ?_)))
 (case side4 => exact (Kd.S_reads' HO_440006.out).2.1)
 rintro e w163 ⟨rfl, hb⟩
 refine ⟨_, rfl, ?_⟩
 have n0_ := Aside0.mk (Kd.R_below (by (with_reducible repeat (first | apply Kd.R_alloc | apply Kd.R_drewN | apply Kd.R_drew)); exact HO_440003.out) hb)
 have n1_ := Aside0.mk (Kd.S_below (by (with_reducible repeat (first | apply Kd.S_alloc | apply Kd.S_drewN | apply Kd.S_drew)); exact HO_440006.out) hb)
 have n2_ := Aside0.mk (Kd.R_below (by (with_reducible repeat (first | apply Kd.R_alloc | apply Kd.R_drewN | apply Kd.R_drew)); exact HL466_0.out) hb)
 have n3_ := Aside0.mk (blk_below (g := gb423) (o := .cells #[.int .i64 a0_0, .int .i64 a0_1, .int .i64 a0_2, .slice A0_3 l0_3.length c0_3, .int .i64 a0_4, .int .i64 a0_5, .slice A0_6 l0_6.length c0_6] 26 (0, 0)) (by (with_reducible repeat (first | refine blk_drewN ?_ _ | refine blk_drew ?_ | refine blk_alloc ?_ _)); exact BK423.out) hb)
 have n4_ := Aside0.mk (blk_below (g := gb424) (o := .cells #[.int .u8 a6_0, .int .i64 a6_1, .int .i64 a6_2, .int .i64 a6_3] 30 (0, 0)) (by (with_reducible repeat (first | refine blk_drewN ?_ _ | refine blk_drew ?_ | refine blk_alloc ?_ _)); exact BK424.out) hb)
 have n5_ := Aside0.mk (blk_below (g := gb439) (o := .cells #[.int .i64 t428, .int .i64 t429, .int .i64 t430, .slice Ao37 t431.length co37, .int .i64 t434, .int .i64 t435, .slice (some ad466) t436.length co38] 26 (0, 0)) (by (with_reducible repeat (first | refine blk_drewN ?_ _ | refine blk_drew ?_ | refine blk_alloc ?_ _)); exact BK439.out) hb)
 have n6_ := Aside0.mk (Kd.C_below (by repeat (first | (with_reducible exact HR466_0.out) | (with_reducible refine Kd.C_alloc ?_ _) | (with_reducible refine Kd.C_drewN ?_ _) | (with_reducible refine Kd.C_drew ?_) | exact HR466_0.out)) hb)
 have n7_ := Aside0.mk (below_step (by repeat (first | (with_reducible first | exact HB.out | apply below_alloc | apply pw_below_drewN | apply below_drew1 | refine below_set ?_ GE423.out | refine below_set ?_ GE424.out | refine below_set ?_ GE439.out) | exact HB.out)) hb)
 clear HO_440003
 clear HO_440006
 clear HL466_0
 clear BK423
 clear BK424
 clear BK439
 clear HR466_0
 clear HB
 have HO_440003 := n0_
 have HO_440006 := n1_
 have HL466_0 := n2_
 have BK423 := n3_
 have BK424 := n4_
 have BK439 := n5_
 have HR466_0 := n6_
 have HB := n7_
 clear n0_ n1_ n2_ n3_ n4_ n5_ n6_ n7_
 (try clear hb)
 (try clear hb2)
 (try clear hk)
 (try clear hi)
 refine hK.out _ _ ⟨(blk_cell BK439.out 0).trans rfl, (blk_cell BK439.out 1).trans rfl, (blk_cell BK439.out 2).trans rfl, (blk_cell BK439.out 3).trans rfl, (blk_cell BK439.out 4).trans rfl, (blk_cell BK439.out 5).trans rfl, (blk_cell BK439.out 6).trans rfl⟩ (fun hHeld => ?_)
 clear hK K
 refine norm_ (a' := ?_) ?_ ?_
 rotate_left
 {
 show Act.put _ (some 128) _ = _
 simp only [Act.put, List.setIfInBounds_toArray, List.set_cons_zero, List.set_cons_succ, i64_w, i32_w]
 rfl
 }
 refine pure_ (i := 5) (N := some 129) (v := ?_) (a' := ?_) #[true, true, true, true, true, true, false] rfl rfl (by kernel_rfl) (fun _ _ _ h => h) (Or.inl ⟨by rfl, ?_⟩) ?_ ?_
 rotate_left
 {
 intro w'
 go_simp
 with_reducible rfl
 }
 rotate_left
 {
 simp only [Act.put, List.setIfInBounds_toArray, List.set_cons_zero, List.set_cons_succ, i64_w, i32_w]
 rfl
 }
 refine pure_ (i := 6) (N := some 14) (v := ?_) (a' := ?_) #[true, true, true, true, true, true, true] rfl rfl (by kernel_rfl) (fun _ _ _ h => h) (Or.inl ⟨by rfl, ?_⟩) ?_ ?_
 rotate_left
 {
 intro w'
 go_simp
 with_reducible rfl
 }
 rotate_left
 {
 simp only [Act.put, List.setIfInBounds_toArray, List.set_cons_zero, List.set_cons_succ, i64_w, i32_w]
 rfl
 }
 refine done_ (by kernel_rfl) ?_
 try go_wp2
 go_ret
 exact ⟨by first | rfl | (simp [errW_none, errW_some] <;> rfl) | (simp only [← hji135]; first | rfl | (simp [errW_none, errW_some] <;> rfl)) | (simp [*, errW_none, errW_some] <;> rfl), by repeat (first | (with_reducible first | exact HB.out | apply below_alloc | apply pw_below_drewN | apply below_drew1 | refine below_set ?_ GE423.out | refine below_set ?_ GE424.out | refine below_set ?_ GE439.out) | exact HB.out)⟩
 }
 }
 {
 rw [if_neg c137] at H
 exact absurd H (by simp)
 }
 }
 {
 rw [if_neg c136] at H
 exact absurd H (by simp)
 }
 }
 }
 }
 }
 }
 }
 }
 }
 }
 )
 )
 }
 )
 )
 }
 )
 )
end Go.Proofs.Ytkkhjfkgfmodnaa.P
