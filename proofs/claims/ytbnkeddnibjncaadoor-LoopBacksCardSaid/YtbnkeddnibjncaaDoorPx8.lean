-- written by this project's xprint.py (a turn of the kit's printer; its own texts among them)
import Derived.Test.YtbnkeddnibjncaaDoorPx0
import Derived.Test.YtbnkeddnibjncaaDoorPx1
import Derived.Test.YtbnkeddnibjncaaDoorPx4
import Derived.Test.YtbnkeddnibjncaaDoorPx6
import Derived.Test.YtbnkeddnibjncaaDoorPx7
namespace Go.Proofs.YtbnkeddnibjncaaDoor.P
open Go.RowKit Go.Proofs.YtbnkeddnibjncaaDoorW.PrintWords Go.Proofs.YtbnkeddnibjncaaDoorW.PrintLast Go.Proofs.YtbnkeddnibjncaaDoorW.PrintMore
attribute [local go_sem] max2_int min2_int max_two min_two max_three min_three max_four min_four   -- for this text's walks alone
attribute [local irreducible] Calls
set_option linter.unusedVariables false
set_option linter.unusedSimpArgs false

/-! ### interlocklaw12_LoopBacks: function 3 -/
mutual
def interlocklaw12_LoopBacks.l0 : Nat → List (List Int) → List (S35) → List Int → List Bool → Int → Option (Bool)
  | 0, _, _, _, _, _ => none
  | k + 1, x5, x6, x7, x8, x9 => if x9 < (x5.length : Int) then (interlocklaw12_LoopBacks.l1 k x5 x6 x7 x8 x9 0) else (interlocklaw12_LoopBacks.l3 k x5 x6 0)
def interlocklaw12_LoopBacks.l1 : Nat → List (List Int) → List (S35) → List Int → List Bool → Int → Int → Option (Bool)
  | 0, _, _, _, _, _, _ => none
  | k + 1, x5, x6, x7, x8, x9, x10 => if 0 ≤ x9 then (if x9 < (x5.length : Int) then (if x10 < ((rd_L1 x5 x9).length : Int) then (if 0 ≤ x10 then (if x9 < (x8.length : Int) then (if rdOf false x8 x9 = true then (if (rd (rd_L1 x5 x9) x10) < 0 then (interlocklaw12_LoopBacks.j2 k x5 x6 x7 x8 x9 x10 (rd (rd_L1 x5 x9) x10) true) else (if (rd (rd_L1 x5 x9) x10) ≥ (x5.length : Int) then (interlocklaw12_LoopBacks.j2 k x5 x6 x7 x8 x9 x10 (rd (rd_L1 x5 x9) x10) true) else (if x9 < (x7.length : Int) then ((interlockref01_Has.f k (rd x7 x9) (rd (rd_L1 x5 x9) x10)).bind fun t231 => (interlocklaw12_LoopBacks.j2 k x5 x6 x7 x8 x9 x10 (rd (rd_L1 x5 x9) x10) (!t231))) else (none)))) else (interlocklaw12_LoopBacks.j2 k x5 x6 x7 x8 x9 x10 (rd (rd_L1 x5 x9) x10) true)) else (none)) else (none)) else (interlocklaw12_LoopBacks.l0 k x5 x6 x7 x8 (wrap64 (x9 + 1)))) else (none)) else (none)
def interlocklaw12_LoopBacks.j2 : Nat → List (List Int) → List (S35) → List Int → List Bool → Int → Int → Int → Bool → Option (Bool)
  | 0, _, _, _, _, _, _, _, _ => none
  | k + 1, x5, x6, x7, x8, x9, x10, x11, x72 => if x72 = true then (interlocklaw12_LoopBacks.l1 k x5 x6 x7 x8 x9 (wrap64 (x10 + 1))) else (interlocklaw12_LoopBacks.l2 k x5 x6 x7 x8 x9 x10 x11 false 0)
def interlocklaw12_LoopBacks.l2 : Nat → List (List Int) → List (S35) → List Int → List Bool → Int → Int → Int → Bool → Int → Option (Bool)
  | 0, _, _, _, _, _, _, _, _, _ => none
  | k + 1, x5, x6, x7, x8, x9, x10, x11, x12, x13 => if x13 < (x6.length : Int) then (if x12 = true then (interlocklaw12_LoopBacks.l2 k x5 x6 x7 x8 x9 x10 x11 true (wrap64 (x13 + 1))) else (if 0 ≤ x13 then (if ((rd_T35 x6 x13).f0) = x11 then ((interlocklaw12_has.f k ((rd_T35 x6 x13).f1) x9).bind fun t234 => (interlocklaw12_LoopBacks.l2 k x5 x6 x7 x8 x9 x10 x11 t234 (wrap64 (x13 + 1)))) else (interlocklaw12_LoopBacks.l2 k x5 x6 x7 x8 x9 x10 x11 false (wrap64 (x13 + 1)))) else (none))) else (if x12 = true then (interlocklaw12_LoopBacks.l1 k x5 x6 x7 x8 x9 (wrap64 (x10 + 1))) else (none))
def interlocklaw12_LoopBacks.l3 : Nat → List (List Int) → List (S35) → Int → Option (Bool)
  | 0, _, _, _ => none
  | k + 1, x5, x6, x14 => if x14 < (x6.length : Int) then (interlocklaw12_LoopBacks.l4 k x5 x6 x14 false 0) else ((interlocklaw12_known.f k).bind fun t235 => (some t235))
def interlocklaw12_LoopBacks.l4 : Nat → List (List Int) → List (S35) → Int → Bool → Int → Option (Bool)
  | 0, _, _, _, _, _ => none
  | k + 1, x5, x6, x14, x15, x16 => if 0 ≤ x14 then (if x14 < (x6.length : Int) then (if x16 < (((rd_T35 x6 x14).f1).length : Int) then (if 0 ≤ x16 then (if x15 = true then (interlocklaw12_LoopBacks.l4 k x5 x6 x14 true (wrap64 (x16 + 1))) else (if (rd ((rd_T35 x6 x14).f1) x16) ≥ 0 then (if (rd ((rd_T35 x6 x14).f1) x16) < (x5.length : Int) then (if 0 ≤ (rd ((rd_T35 x6 x14).f1) x16) then ((interlocklaw12_has.f k (rd_L1 x5 (rd ((rd_T35 x6 x14).f1) x16)) ((rd_T35 x6 x14).f0)).bind fun t241 => (interlocklaw12_LoopBacks.l4 k x5 x6 x14 t241 (wrap64 (x16 + 1)))) else (none)) else (interlocklaw12_LoopBacks.l4 k x5 x6 x14 false (wrap64 (x16 + 1)))) else (interlocklaw12_LoopBacks.l4 k x5 x6 x14 false (wrap64 (x16 + 1))))) else (none)) else (if x15 = true then (interlocklaw12_LoopBacks.l3 k x5 x6 (wrap64 (x14 + 1))) else (none))) else (none)) else (none)
end
def interlocklaw12_LoopBacks.f (k : Nat) (a0 : Int) (l1 : List Int) : Option (Bool) := (interlocklaw10_Graph.f k a0 l1).bind fun t214 => ((loop_Of.f k t214).bind fun t217 => ((interlockref10_Doms.f k t214).bind fun t220 => ((interlockref10_Reach.f k t214).bind fun t223 => (interlocklaw12_LoopBacks.l0 k t214 t217 t220 t223 0))))
theorem interlocklaw12_LoopBacks.mono_l : ∀ k, (∀ y0 y1 y2 y3 y4, LeO (interlocklaw12_LoopBacks.l0 k y0 y1 y2 y3 y4) (interlocklaw12_LoopBacks.l0 (k + 1) y0 y1 y2 y3 y4)) ∧ (∀ y0 y1 y2 y3 y4 y5, LeO (interlocklaw12_LoopBacks.l1 k y0 y1 y2 y3 y4 y5) (interlocklaw12_LoopBacks.l1 (k + 1) y0 y1 y2 y3 y4 y5)) ∧ (∀ y0 y1 y2 y3 y4 y5 y6 y7, LeO (interlocklaw12_LoopBacks.j2 k y0 y1 y2 y3 y4 y5 y6 y7) (interlocklaw12_LoopBacks.j2 (k + 1) y0 y1 y2 y3 y4 y5 y6 y7)) ∧ (∀ y0 y1 y2 y3 y4 y5 y6 y7 y8, LeO (interlocklaw12_LoopBacks.l2 k y0 y1 y2 y3 y4 y5 y6 y7 y8) (interlocklaw12_LoopBacks.l2 (k + 1) y0 y1 y2 y3 y4 y5 y6 y7 y8)) ∧ (∀ y0 y1 y2, LeO (interlocklaw12_LoopBacks.l3 k y0 y1 y2) (interlocklaw12_LoopBacks.l3 (k + 1) y0 y1 y2)) ∧ (∀ y0 y1 y2 y3 y4, LeO (interlocklaw12_LoopBacks.l4 k y0 y1 y2 y3 y4) (interlocklaw12_LoopBacks.l4 (k + 1) y0 y1 y2 y3 y4))
  | 0 => ⟨fun _ _ _ _ _ r h => by simp [interlocklaw12_LoopBacks.l0] at h, fun _ _ _ _ _ _ r h => by simp [interlocklaw12_LoopBacks.l1] at h, fun _ _ _ _ _ _ _ _ r h => by simp [interlocklaw12_LoopBacks.j2] at h, fun _ _ _ _ _ _ _ _ _ r h => by simp [interlocklaw12_LoopBacks.l2] at h, fun _ _ _ r h => by simp [interlocklaw12_LoopBacks.l3] at h, fun _ _ _ _ _ r h => by simp [interlocklaw12_LoopBacks.l4] at h⟩
  | k + 1 => by
    obtain ⟨ih0, ih1, ih2, ih3, ih4, ih5⟩ := interlocklaw12_LoopBacks.mono_l k
    refine ⟨?_, ?_, ?_, ?_, ?_, ?_⟩
    · intro y0 y1 y2 y3 y4
      unfold interlocklaw12_LoopBacks.l0
      repeat' first
      | (with_reducible exact ih0 _ _ _ _ _)
      | (with_reducible exact ih1 _ _ _ _ _ _)
      | (with_reducible exact ih2 _ _ _ _ _ _ _ _)
      | (with_reducible exact ih3 _ _ _ _ _ _ _ _ _)
      | (with_reducible exact ih4 _ _ _)
      | (with_reducible exact ih5 _ _ _ _ _)
      | (with_reducible exact interlocklaw10_Graph.mono _ _ _)
      | (with_reducible exact interlocklaw12_has.mono _ _ _)
      | (with_reducible exact interlocklaw12_known.mono _)
      | (with_reducible exact interlockref01_Has.mono _ _ _)
      | (with_reducible exact interlockref10_Doms.mono _ _)
      | (with_reducible exact interlockref10_Reach.mono _ _)
      | (with_reducible exact loop_Of.mono _ _)
      | (with_reducible exact LeO.refl _)
      | (with_reducible exact LeO.none _)
      | (with_reducible refine LeO.ite ?_ ?_)
      | (with_reducible refine LeO.bind ?_ (fun _ => ?_))
      | exact ih0 _ _ _ _ _
      | exact ih1 _ _ _ _ _ _
      | exact ih2 _ _ _ _ _ _ _ _
      | exact ih3 _ _ _ _ _ _ _ _ _
      | exact ih4 _ _ _
      | exact ih5 _ _ _ _ _
      | exact LeO.none _
      | refine LeO.ite ?_ ?_
      | refine LeO.bind ?_ (fun _ => ?_)
    · intro y0 y1 y2 y3 y4 y5
      unfold interlocklaw12_LoopBacks.l1
      repeat' first
      | (with_reducible exact ih0 _ _ _ _ _)
      | (with_reducible exact ih1 _ _ _ _ _ _)
      | (with_reducible exact ih2 _ _ _ _ _ _ _ _)
      | (with_reducible exact ih3 _ _ _ _ _ _ _ _ _)
      | (with_reducible exact ih4 _ _ _)
      | (with_reducible exact ih5 _ _ _ _ _)
      | (with_reducible exact interlocklaw10_Graph.mono _ _ _)
      | (with_reducible exact interlocklaw12_has.mono _ _ _)
      | (with_reducible exact interlocklaw12_known.mono _)
      | (with_reducible exact interlockref01_Has.mono _ _ _)
      | (with_reducible exact interlockref10_Doms.mono _ _)
      | (with_reducible exact interlockref10_Reach.mono _ _)
      | (with_reducible exact loop_Of.mono _ _)
      | (with_reducible exact LeO.refl _)
      | (with_reducible exact LeO.none _)
      | (with_reducible refine LeO.ite ?_ ?_)
      | (with_reducible refine LeO.bind ?_ (fun _ => ?_))
      | exact ih0 _ _ _ _ _
      | exact ih1 _ _ _ _ _ _
      | exact ih2 _ _ _ _ _ _ _ _
      | exact ih3 _ _ _ _ _ _ _ _ _
      | exact ih4 _ _ _
      | exact ih5 _ _ _ _ _
      | exact LeO.none _
      | refine LeO.ite ?_ ?_
      | refine LeO.bind ?_ (fun _ => ?_)
    · intro y0 y1 y2 y3 y4 y5 y6 y7
      unfold interlocklaw12_LoopBacks.j2
      repeat' first
      | (with_reducible exact ih0 _ _ _ _ _)
      | (with_reducible exact ih1 _ _ _ _ _ _)
      | (with_reducible exact ih2 _ _ _ _ _ _ _ _)
      | (with_reducible exact ih3 _ _ _ _ _ _ _ _ _)
      | (with_reducible exact ih4 _ _ _)
      | (with_reducible exact ih5 _ _ _ _ _)
      | (with_reducible exact interlocklaw10_Graph.mono _ _ _)
      | (with_reducible exact interlocklaw12_has.mono _ _ _)
      | (with_reducible exact interlocklaw12_known.mono _)
      | (with_reducible exact interlockref01_Has.mono _ _ _)
      | (with_reducible exact interlockref10_Doms.mono _ _)
      | (with_reducible exact interlockref10_Reach.mono _ _)
      | (with_reducible exact loop_Of.mono _ _)
      | (with_reducible exact LeO.refl _)
      | (with_reducible exact LeO.none _)
      | (with_reducible refine LeO.ite ?_ ?_)
      | (with_reducible refine LeO.bind ?_ (fun _ => ?_))
      | exact ih0 _ _ _ _ _
      | exact ih1 _ _ _ _ _ _
      | exact ih2 _ _ _ _ _ _ _ _
      | exact ih3 _ _ _ _ _ _ _ _ _
      | exact ih4 _ _ _
      | exact ih5 _ _ _ _ _
      | exact LeO.none _
      | refine LeO.ite ?_ ?_
      | refine LeO.bind ?_ (fun _ => ?_)
    · intro y0 y1 y2 y3 y4 y5 y6 y7 y8
      unfold interlocklaw12_LoopBacks.l2
      repeat' first
      | (with_reducible exact ih0 _ _ _ _ _)
      | (with_reducible exact ih1 _ _ _ _ _ _)
      | (with_reducible exact ih2 _ _ _ _ _ _ _ _)
      | (with_reducible exact ih3 _ _ _ _ _ _ _ _ _)
      | (with_reducible exact ih4 _ _ _)
      | (with_reducible exact ih5 _ _ _ _ _)
      | (with_reducible exact interlocklaw10_Graph.mono _ _ _)
      | (with_reducible exact interlocklaw12_has.mono _ _ _)
      | (with_reducible exact interlocklaw12_known.mono _)
      | (with_reducible exact interlockref01_Has.mono _ _ _)
      | (with_reducible exact interlockref10_Doms.mono _ _)
      | (with_reducible exact interlockref10_Reach.mono _ _)
      | (with_reducible exact loop_Of.mono _ _)
      | (with_reducible exact LeO.refl _)
      | (with_reducible exact LeO.none _)
      | (with_reducible refine LeO.ite ?_ ?_)
      | (with_reducible refine LeO.bind ?_ (fun _ => ?_))
      | exact ih0 _ _ _ _ _
      | exact ih1 _ _ _ _ _ _
      | exact ih2 _ _ _ _ _ _ _ _
      | exact ih3 _ _ _ _ _ _ _ _ _
      | exact ih4 _ _ _
      | exact ih5 _ _ _ _ _
      | exact LeO.none _
      | refine LeO.ite ?_ ?_
      | refine LeO.bind ?_ (fun _ => ?_)
    · intro y0 y1 y2
      unfold interlocklaw12_LoopBacks.l3
      repeat' first
      | (with_reducible exact ih0 _ _ _ _ _)
      | (with_reducible exact ih1 _ _ _ _ _ _)
      | (with_reducible exact ih2 _ _ _ _ _ _ _ _)
      | (with_reducible exact ih3 _ _ _ _ _ _ _ _ _)
      | (with_reducible exact ih4 _ _ _)
      | (with_reducible exact ih5 _ _ _ _ _)
      | (with_reducible exact interlocklaw10_Graph.mono _ _ _)
      | (with_reducible exact interlocklaw12_has.mono _ _ _)
      | (with_reducible exact interlocklaw12_known.mono _)
      | (with_reducible exact interlockref01_Has.mono _ _ _)
      | (with_reducible exact interlockref10_Doms.mono _ _)
      | (with_reducible exact interlockref10_Reach.mono _ _)
      | (with_reducible exact loop_Of.mono _ _)
      | (with_reducible exact LeO.refl _)
      | (with_reducible exact LeO.none _)
      | (with_reducible refine LeO.ite ?_ ?_)
      | (with_reducible refine LeO.bind ?_ (fun _ => ?_))
      | exact ih0 _ _ _ _ _
      | exact ih1 _ _ _ _ _ _
      | exact ih2 _ _ _ _ _ _ _ _
      | exact ih3 _ _ _ _ _ _ _ _ _
      | exact ih4 _ _ _
      | exact ih5 _ _ _ _ _
      | exact LeO.none _
      | refine LeO.ite ?_ ?_
      | refine LeO.bind ?_ (fun _ => ?_)
    · intro y0 y1 y2 y3 y4
      unfold interlocklaw12_LoopBacks.l4
      repeat' first
      | (with_reducible exact ih0 _ _ _ _ _)
      | (with_reducible exact ih1 _ _ _ _ _ _)
      | (with_reducible exact ih2 _ _ _ _ _ _ _ _)
      | (with_reducible exact ih3 _ _ _ _ _ _ _ _ _)
      | (with_reducible exact ih4 _ _ _)
      | (with_reducible exact ih5 _ _ _ _ _)
      | (with_reducible exact interlocklaw10_Graph.mono _ _ _)
      | (with_reducible exact interlocklaw12_has.mono _ _ _)
      | (with_reducible exact interlocklaw12_known.mono _)
      | (with_reducible exact interlockref01_Has.mono _ _ _)
      | (with_reducible exact interlockref10_Doms.mono _ _)
      | (with_reducible exact interlockref10_Reach.mono _ _)
      | (with_reducible exact loop_Of.mono _ _)
      | (with_reducible exact LeO.refl _)
      | (with_reducible exact LeO.none _)
      | (with_reducible refine LeO.ite ?_ ?_)
      | (with_reducible refine LeO.bind ?_ (fun _ => ?_))
      | exact ih0 _ _ _ _ _
      | exact ih1 _ _ _ _ _ _
      | exact ih2 _ _ _ _ _ _ _ _
      | exact ih3 _ _ _ _ _ _ _ _ _
      | exact ih4 _ _ _
      | exact ih5 _ _ _ _ _
      | exact LeO.none _
      | refine LeO.ite ?_ ?_
      | refine LeO.bind ?_ (fun _ => ?_)
theorem interlocklaw12_LoopBacks.mono : ∀ a0 a1 k, LeO (interlocklaw12_LoopBacks.f k a0 a1) (interlocklaw12_LoopBacks.f (k + 1) a0 a1) := by
  intro a0 a1 k
  obtain ⟨ih0, ih1, ih2, ih3, ih4, ih5⟩ := interlocklaw12_LoopBacks.mono_l k
  unfold interlocklaw12_LoopBacks.f
  repeat' first
      | (with_reducible exact ih0 _ _ _ _ _)
      | (with_reducible exact ih1 _ _ _ _ _ _)
      | (with_reducible exact ih2 _ _ _ _ _ _ _ _)
      | (with_reducible exact ih3 _ _ _ _ _ _ _ _ _)
      | (with_reducible exact ih4 _ _ _)
      | (with_reducible exact ih5 _ _ _ _ _)
      | (with_reducible exact interlocklaw10_Graph.mono _ _ _)
      | (with_reducible exact interlocklaw12_has.mono _ _ _)
      | (with_reducible exact interlocklaw12_known.mono _)
      | (with_reducible exact interlockref01_Has.mono _ _ _)
      | (with_reducible exact interlockref10_Doms.mono _ _)
      | (with_reducible exact interlockref10_Reach.mono _ _)
      | (with_reducible exact loop_Of.mono _ _)
      | (with_reducible exact LeO.refl _)
      | (with_reducible exact LeO.none _)
      | (with_reducible refine LeO.ite ?_ ?_)
      | (with_reducible refine LeO.bind ?_ (fun _ => ?_))
      | exact ih0 _ _ _ _ _
      | exact ih1 _ _ _ _ _ _
      | exact ih2 _ _ _ _ _ _ _ _
      | exact ih3 _ _ _ _ _ _ _ _ _
      | exact ih4 _ _ _
      | exact ih5 _ _ _ _ _
      | exact LeO.none _
      | refine LeO.ite ?_ ?_
      | refine LeO.bind ?_ (fun _ => ?_)
set_option maxHeartbeats 8000000 in
set_option maxRecDepth 100000 in
theorem interlocklaw12_LoopBacks.calls (k : Nat) (a0 : Int) (A1 : Option Addr) (c1 : Nat) (l1 : List Int) (r : Bool) (w : World) (hr1 : Kd.C (Kd.int .u8) w A1 l1.length l1) (hc1 : l1.length ≤ c1) (HT0 : It.TabOk w) (h : interlocklaw12_LoopBacks.f k a0 l1 = some r) :
    Calls Tryd.prog 3 #[.int .u8 a0, .slice A1 l1.length c1] w fun e w' => e = .returned (.bool r) ∧ Below w.heap.size w w' := by
 have HT := Aside0.mk HT0
 clear HT0
 have HR1 := Aside0.mk hr1
 have HC1 := Aside0.mk hc1
 clear hr1 hc1
 have HB := Aside0.mk (Below.refl w.heap.size w)
 have H : ((interlocklaw10_Graph.f k a0 l1).bind fun t214 => ((loop_Of.f k t214).bind fun t217 => ((interlockref10_Doms.f k t214).bind fun t220 => ((interlockref10_Reach.f k t214).bind fun t223 => (interlocklaw12_LoopBacks.l0 k t214 t217 t220 t223 0))))) = some r := h
 clear h
 replace H := Option.bind_eq_some_iff.mp H
 obtain ⟨t214, A30, H⟩ := H
 replace H : ((loop_Of.f k t214).bind fun t217 => ((interlockref10_Doms.f k t214).bind fun t220 => ((interlockref10_Reach.f k t214).bind fun t223 => (interlocklaw12_LoopBacks.l0 k t214 t217 t220 t223 0)))) = some r := H
 have A3 := Aside0.mk A30
 clear A30
 replace H := Option.bind_eq_some_iff.mp H
 obtain ⟨t217, A40, H⟩ := H
 replace H : ((interlockref10_Doms.f k t214).bind fun t220 => ((interlockref10_Reach.f k t214).bind fun t223 => (interlocklaw12_LoopBacks.l0 k t214 t217 t220 t223 0))) = some r := H
 have A4 := Aside0.mk A40
 clear A40
 replace H := Option.bind_eq_some_iff.mp H
 obtain ⟨t220, A50, H⟩ := H
 replace H : ((interlockref10_Reach.f k t214).bind fun t223 => (interlocklaw12_LoopBacks.l0 k t214 t217 t220 t223 0)) = some r := H
 have A5 := Aside0.mk A50
 clear A50
 replace H := Option.bind_eq_some_iff.mp H
 obtain ⟨t223, A60, H⟩ := H
 replace H : (interlocklaw12_LoopBacks.l0 k t214 t217 t220 t223 0) = some r := H
 have A6 := Aside0.mk A60
 clear A60
 have H' := Aside0.mk H
 clear H
 go_enter Tryd.func3, Tryd.ntmps3
 go_wp2_with (first | (go_at_call 8; (with_reducible refine (interlocklaw10_Graph.calls k a0 _ _ l1 t214 _ ?side1 ?side2 A3.out).mono ?_); (case side1 => repeat (first | exact HR1.out | (with_reducible refine Kd.C_alloc ?_ _) | (with_reducible refine Kd.C_drewN ?_ _) | (with_reducible refine Kd.C_drew ?_))); (case side2 => exact HC1.out); rintro e w7 ⟨v215, rfl, ho0, hb⟩; have n0_ := Aside0.mk (Kd.S_lower ho0 (below_size (by repeat (first | (with_reducible first | exact HB.out | apply below_alloc | apply pw_below_drewN | apply below_drew1) | exact HB.out)))); have n1_ := Aside0.mk (below_step (by repeat (first | (with_reducible first | exact HB.out | apply below_alloc | apply pw_below_drewN | apply below_drew1) | exact HB.out)) hb); clear HB; have HO216 := n0_; have HB := n1_; clear n0_ n1_; (try clear hb); (try clear hb2); (try clear hk); (try clear hi); (try clear ho0); obtain ⟨Ao8, co8, eo8⟩ := Kd.S_slice HO216.out; subst eo8) | (go_at_call 9; (with_reducible refine (loop_Of.calls k _ _ t214 t217 _ ?side1 ?side2 ?side3 A4.out).mono ?_); (case side1 => repeat (first | exact (Kd.S_reads' HO216.out).2.2 | (with_reducible refine Kd.C_alloc ?_ _) | (with_reducible refine Kd.C_drewN ?_ _) | (with_reducible refine Kd.C_drew ?_))); (case side2 => exact (Kd.S_reads' HO216.out).2.1); (case side3 => exact It.TabOk.below HT.out (by repeat (first | (with_reducible first | exact HB.out | apply below_alloc | apply pw_below_drewN | apply below_drew1) | exact HB.out))); rintro e w9 ⟨v218, rfl, ho0, hb⟩; have n0_ := Aside0.mk (Kd.S_below (by (with_reducible repeat (first | apply Kd.S_alloc | apply Kd.S_drewN | apply Kd.S_drew)); exact HO216.out) hb); have n1_ := Aside0.mk (Kd.S_lower ho0 (below_size (by repeat (first | (with_reducible first | exact HB.out | apply below_alloc | apply pw_below_drewN | apply below_drew1) | exact HB.out)))); have n2_ := Aside0.mk (below_step (by repeat (first | (with_reducible first | exact HB.out | apply below_alloc | apply pw_below_drewN | apply below_drew1) | exact HB.out)) hb); clear HO216; clear HB; have HO216 := n0_; have HO219 := n1_; have HB := n2_; clear n0_ n1_ n2_; (try clear hb); (try clear hb2); (try clear hk); (try clear hi); (try clear ho0)) | (go_at_call 10; (with_reducible refine (interlockref10_Doms.calls k _ _ t214 t220 _ ?side1 ?side2 A5.out).mono ?_); (case side1 => repeat (first | exact (Kd.S_reads' HO216.out).2.2 | (with_reducible refine Kd.C_alloc ?_ _) | (with_reducible refine Kd.C_drewN ?_ _) | (with_reducible refine Kd.C_drew ?_))); (case side2 => exact (Kd.S_reads' HO216.out).2.1); rintro e w10 ⟨v221, rfl, ho0, hb⟩; have n0_ := Aside0.mk (Kd.S_below (by (with_reducible repeat (first | apply Kd.S_alloc | apply Kd.S_drewN | apply Kd.S_drew)); exact HO216.out) hb); have n1_ := Aside0.mk (Kd.S_below (by (with_reducible repeat (first | apply Kd.S_alloc | apply Kd.S_drewN | apply Kd.S_drew)); exact HO219.out) hb); have n2_ := Aside0.mk (Kd.R_lower ho0 (below_size (by repeat (first | (with_reducible first | exact HB.out | apply below_alloc | apply pw_below_drewN | apply below_drew1) | exact HB.out)))); have n3_ := Aside0.mk (below_step (by repeat (first | (with_reducible first | exact HB.out | apply below_alloc | apply pw_below_drewN | apply below_drew1) | exact HB.out)) hb); clear HO216; clear HO219; clear HB; have HO216 := n0_; have HO219 := n1_; have HO222 := n2_; have HB := n3_; clear n0_ n1_ n2_ n3_; (try clear hb); (try clear hb2); (try clear hk); (try clear hi); (try clear ho0)) | (go_at_call 11; (with_reducible refine (interlockref10_Reach.calls k _ _ t214 t223 _ ?side1 ?side2 A6.out).mono ?_); (case side1 => repeat (first | exact (Kd.S_reads' HO216.out).2.2 | (with_reducible refine Kd.C_alloc ?_ _) | (with_reducible refine Kd.C_drewN ?_ _) | (with_reducible refine Kd.C_drew ?_))); (case side2 => exact (Kd.S_reads' HO216.out).2.1); rintro e w11 ⟨v224, rfl, ho0, hb⟩; have n0_ := Aside0.mk (Kd.S_below (by (with_reducible repeat (first | apply Kd.S_alloc | apply Kd.S_drewN | apply Kd.S_drew)); exact HO216.out) hb); have n1_ := Aside0.mk (Kd.S_below (by (with_reducible repeat (first | apply Kd.S_alloc | apply Kd.S_drewN | apply Kd.S_drew)); exact HO219.out) hb); have n2_ := Aside0.mk (Kd.R_below (by (with_reducible repeat (first | apply Kd.R_alloc | apply Kd.R_drewN | apply Kd.R_drew)); exact HO222.out) hb); have n3_ := Aside0.mk (Kd.R_lower ho0 (below_size (by repeat (first | (with_reducible first | exact HB.out | apply below_alloc | apply pw_below_drewN | apply below_drew1) | exact HB.out)))); have n4_ := Aside0.mk (below_step (by repeat (first | (with_reducible first | exact HB.out | apply below_alloc | apply pw_below_drewN | apply below_drew1) | exact HB.out)) hb); clear HO216; clear HO219; clear HO222; clear HB; have HO216 := n0_; have HO219 := n1_; have HO222 := n2_; have HO225 := n3_; have HB := n4_; clear n0_ n1_ n2_ n3_ n4_; (try clear hb); (try clear hb2); (try clear hk); (try clear hi); (try clear ho0)))
 repeat (go_quiet (first | (go_at_call 8; (with_reducible refine (interlocklaw10_Graph.calls k a0 _ _ l1 t214 _ ?side1 ?side2 A3.out).mono ?_); (case side1 => repeat (first | exact HR1.out | (with_reducible refine Kd.C_alloc ?_ _) | (with_reducible refine Kd.C_drewN ?_ _) | (with_reducible refine Kd.C_drew ?_))); (case side2 => exact HC1.out); rintro e w7 ⟨v215, rfl, ho0, hb⟩; have n0_ := Aside0.mk (Kd.S_lower ho0 (below_size (by repeat (first | (with_reducible first | exact HB.out | apply below_alloc | apply pw_below_drewN | apply below_drew1) | exact HB.out)))); have n1_ := Aside0.mk (below_step (by repeat (first | (with_reducible first | exact HB.out | apply below_alloc | apply pw_below_drewN | apply below_drew1) | exact HB.out)) hb); clear HB; have HO216 := n0_; have HB := n1_; clear n0_ n1_; (try clear hb); (try clear hb2); (try clear hk); (try clear hi); (try clear ho0); obtain ⟨Ao8, co8, eo8⟩ := Kd.S_slice HO216.out; subst eo8) | (go_at_call 9; (with_reducible refine (loop_Of.calls k _ _ t214 t217 _ ?side1 ?side2 ?side3 A4.out).mono ?_); (case side1 => repeat (first | exact (Kd.S_reads' HO216.out).2.2 | (with_reducible refine Kd.C_alloc ?_ _) | (with_reducible refine Kd.C_drewN ?_ _) | (with_reducible refine Kd.C_drew ?_))); (case side2 => exact (Kd.S_reads' HO216.out).2.1); (case side3 => exact It.TabOk.below HT.out (by repeat (first | (with_reducible first | exact HB.out | apply below_alloc | apply pw_below_drewN | apply below_drew1) | exact HB.out))); rintro e w9 ⟨v218, rfl, ho0, hb⟩; have n0_ := Aside0.mk (Kd.S_below (by (with_reducible repeat (first | apply Kd.S_alloc | apply Kd.S_drewN | apply Kd.S_drew)); exact HO216.out) hb); have n1_ := Aside0.mk (Kd.S_lower ho0 (below_size (by repeat (first | (with_reducible first | exact HB.out | apply below_alloc | apply pw_below_drewN | apply below_drew1) | exact HB.out)))); have n2_ := Aside0.mk (below_step (by repeat (first | (with_reducible first | exact HB.out | apply below_alloc | apply pw_below_drewN | apply below_drew1) | exact HB.out)) hb); clear HO216; clear HB; have HO216 := n0_; have HO219 := n1_; have HB := n2_; clear n0_ n1_ n2_; (try clear hb); (try clear hb2); (try clear hk); (try clear hi); (try clear ho0)) | (go_at_call 10; (with_reducible refine (interlockref10_Doms.calls k _ _ t214 t220 _ ?side1 ?side2 A5.out).mono ?_); (case side1 => repeat (first | exact (Kd.S_reads' HO216.out).2.2 | (with_reducible refine Kd.C_alloc ?_ _) | (with_reducible refine Kd.C_drewN ?_ _) | (with_reducible refine Kd.C_drew ?_))); (case side2 => exact (Kd.S_reads' HO216.out).2.1); rintro e w10 ⟨v221, rfl, ho0, hb⟩; have n0_ := Aside0.mk (Kd.S_below (by (with_reducible repeat (first | apply Kd.S_alloc | apply Kd.S_drewN | apply Kd.S_drew)); exact HO216.out) hb); have n1_ := Aside0.mk (Kd.S_below (by (with_reducible repeat (first | apply Kd.S_alloc | apply Kd.S_drewN | apply Kd.S_drew)); exact HO219.out) hb); have n2_ := Aside0.mk (Kd.R_lower ho0 (below_size (by repeat (first | (with_reducible first | exact HB.out | apply below_alloc | apply pw_below_drewN | apply below_drew1) | exact HB.out)))); have n3_ := Aside0.mk (below_step (by repeat (first | (with_reducible first | exact HB.out | apply below_alloc | apply pw_below_drewN | apply below_drew1) | exact HB.out)) hb); clear HO216; clear HO219; clear HB; have HO216 := n0_; have HO219 := n1_; have HO222 := n2_; have HB := n3_; clear n0_ n1_ n2_ n3_; (try clear hb); (try clear hb2); (try clear hk); (try clear hi); (try clear ho0)) | (go_at_call 11; (with_reducible refine (interlockref10_Reach.calls k _ _ t214 t223 _ ?side1 ?side2 A6.out).mono ?_); (case side1 => repeat (first | exact (Kd.S_reads' HO216.out).2.2 | (with_reducible refine Kd.C_alloc ?_ _) | (with_reducible refine Kd.C_drewN ?_ _) | (with_reducible refine Kd.C_drew ?_))); (case side2 => exact (Kd.S_reads' HO216.out).2.1); rintro e w11 ⟨v224, rfl, ho0, hb⟩; have n0_ := Aside0.mk (Kd.S_below (by (with_reducible repeat (first | apply Kd.S_alloc | apply Kd.S_drewN | apply Kd.S_drew)); exact HO216.out) hb); have n1_ := Aside0.mk (Kd.S_below (by (with_reducible repeat (first | apply Kd.S_alloc | apply Kd.S_drewN | apply Kd.S_drew)); exact HO219.out) hb); have n2_ := Aside0.mk (Kd.R_below (by (with_reducible repeat (first | apply Kd.R_alloc | apply Kd.R_drewN | apply Kd.R_drew)); exact HO222.out) hb); have n3_ := Aside0.mk (Kd.R_lower ho0 (below_size (by repeat (first | (with_reducible first | exact HB.out | apply below_alloc | apply pw_below_drewN | apply below_drew1) | exact HB.out)))); have n4_ := Aside0.mk (below_step (by repeat (first | (with_reducible first | exact HB.out | apply below_alloc | apply pw_below_drewN | apply below_drew1) | exact HB.out)) hb); clear HO216; clear HO219; clear HO222; clear HB; have HO216 := n0_; have HO219 := n1_; have HO222 := n2_; have HO225 := n3_; have HB := n4_; clear n0_ n1_ n2_ n3_ n4_; (try clear hb); (try clear hb2); (try clear hk); (try clear hi); (try clear ho0))); try go_wp2_with (first | (go_at_call 8; (with_reducible refine (interlocklaw10_Graph.calls k a0 _ _ l1 t214 _ ?side1 ?side2 A3.out).mono ?_); (case side1 => repeat (first | exact HR1.out | (with_reducible refine Kd.C_alloc ?_ _) | (with_reducible refine Kd.C_drewN ?_ _) | (with_reducible refine Kd.C_drew ?_))); (case side2 => exact HC1.out); rintro e w7 ⟨v215, rfl, ho0, hb⟩; have n0_ := Aside0.mk (Kd.S_lower ho0 (below_size (by repeat (first | (with_reducible first | exact HB.out | apply below_alloc | apply pw_below_drewN | apply below_drew1) | exact HB.out)))); have n1_ := Aside0.mk (below_step (by repeat (first | (with_reducible first | exact HB.out | apply below_alloc | apply pw_below_drewN | apply below_drew1) | exact HB.out)) hb); clear HB; have HO216 := n0_; have HB := n1_; clear n0_ n1_; (try clear hb); (try clear hb2); (try clear hk); (try clear hi); (try clear ho0); obtain ⟨Ao8, co8, eo8⟩ := Kd.S_slice HO216.out; subst eo8) | (go_at_call 9; (with_reducible refine (loop_Of.calls k _ _ t214 t217 _ ?side1 ?side2 ?side3 A4.out).mono ?_); (case side1 => repeat (first | exact (Kd.S_reads' HO216.out).2.2 | (with_reducible refine Kd.C_alloc ?_ _) | (with_reducible refine Kd.C_drewN ?_ _) | (with_reducible refine Kd.C_drew ?_))); (case side2 => exact (Kd.S_reads' HO216.out).2.1); (case side3 => exact It.TabOk.below HT.out (by repeat (first | (with_reducible first | exact HB.out | apply below_alloc | apply pw_below_drewN | apply below_drew1) | exact HB.out))); rintro e w9 ⟨v218, rfl, ho0, hb⟩; have n0_ := Aside0.mk (Kd.S_below (by (with_reducible repeat (first | apply Kd.S_alloc | apply Kd.S_drewN | apply Kd.S_drew)); exact HO216.out) hb); have n1_ := Aside0.mk (Kd.S_lower ho0 (below_size (by repeat (first | (with_reducible first | exact HB.out | apply below_alloc | apply pw_below_drewN | apply below_drew1) | exact HB.out)))); have n2_ := Aside0.mk (below_step (by repeat (first | (with_reducible first | exact HB.out | apply below_alloc | apply pw_below_drewN | apply below_drew1) | exact HB.out)) hb); clear HO216; clear HB; have HO216 := n0_; have HO219 := n1_; have HB := n2_; clear n0_ n1_ n2_; (try clear hb); (try clear hb2); (try clear hk); (try clear hi); (try clear ho0)) | (go_at_call 10; (with_reducible refine (interlockref10_Doms.calls k _ _ t214 t220 _ ?side1 ?side2 A5.out).mono ?_); (case side1 => repeat (first | exact (Kd.S_reads' HO216.out).2.2 | (with_reducible refine Kd.C_alloc ?_ _) | (with_reducible refine Kd.C_drewN ?_ _) | (with_reducible refine Kd.C_drew ?_))); (case side2 => exact (Kd.S_reads' HO216.out).2.1); rintro e w10 ⟨v221, rfl, ho0, hb⟩; have n0_ := Aside0.mk (Kd.S_below (by (with_reducible repeat (first | apply Kd.S_alloc | apply Kd.S_drewN | apply Kd.S_drew)); exact HO216.out) hb); have n1_ := Aside0.mk (Kd.S_below (by (with_reducible repeat (first | apply Kd.S_alloc | apply Kd.S_drewN | apply Kd.S_drew)); exact HO219.out) hb); have n2_ := Aside0.mk (Kd.R_lower ho0 (below_size (by repeat (first | (with_reducible first | exact HB.out | apply below_alloc | apply pw_below_drewN | apply below_drew1) | exact HB.out)))); have n3_ := Aside0.mk (below_step (by repeat (first | (with_reducible first | exact HB.out | apply below_alloc | apply pw_below_drewN | apply below_drew1) | exact HB.out)) hb); clear HO216; clear HO219; clear HB; have HO216 := n0_; have HO219 := n1_; have HO222 := n2_; have HB := n3_; clear n0_ n1_ n2_ n3_; (try clear hb); (try clear hb2); (try clear hk); (try clear hi); (try clear ho0)) | (go_at_call 11; (with_reducible refine (interlockref10_Reach.calls k _ _ t214 t223 _ ?side1 ?side2 A6.out).mono ?_); (case side1 => repeat (first | exact (Kd.S_reads' HO216.out).2.2 | (with_reducible refine Kd.C_alloc ?_ _) | (with_reducible refine Kd.C_drewN ?_ _) | (with_reducible refine Kd.C_drew ?_))); (case side2 => exact (Kd.S_reads' HO216.out).2.1); rintro e w11 ⟨v224, rfl, ho0, hb⟩; have n0_ := Aside0.mk (Kd.S_below (by (with_reducible repeat (first | apply Kd.S_alloc | apply Kd.S_drewN | apply Kd.S_drew)); exact HO216.out) hb); have n1_ := Aside0.mk (Kd.S_below (by (with_reducible repeat (first | apply Kd.S_alloc | apply Kd.S_drewN | apply Kd.S_drew)); exact HO219.out) hb); have n2_ := Aside0.mk (Kd.R_below (by (with_reducible repeat (first | apply Kd.R_alloc | apply Kd.R_drewN | apply Kd.R_drew)); exact HO222.out) hb); have n3_ := Aside0.mk (Kd.R_lower ho0 (below_size (by repeat (first | (with_reducible first | exact HB.out | apply below_alloc | apply pw_below_drewN | apply below_drew1) | exact HB.out)))); have n4_ := Aside0.mk (below_step (by repeat (first | (with_reducible first | exact HB.out | apply below_alloc | apply pw_below_drewN | apply below_drew1) | exact HB.out)) hb); clear HO216; clear HO219; clear HO222; clear HB; have HO216 := n0_; have HO219 := n1_; have HO222 := n2_; have HO225 := n3_; have HB := n4_; clear n0_ n1_ n2_ n3_ n4_; (try clear hb); (try clear hb2); (try clear hk); (try clear hi); (try clear ho0))))
 go_loopg [9] k (fun kq v9 w' => ∃ (x9_1 : Int), v9 = .int .i64 x9_1 ∧ Aside0 (interlocklaw12_LoopBacks.l0 kq t214 t217 t220 t223 x9_1 = some r) ∧ Aside0 (kq ≤ k) ∧ Aside0 (Kd.S (Kd.slice 3 (Kd.int .i64)) 31 w' w.heap.size (fun _ => True) (.slice Ao8 t214.length co8) t214) ∧ Aside0 (Kd.S k35 35 w' w.heap.size (fun _ => True) v218 t217) ∧ Aside0 (Kd.R (Kd.int .u64) 33 w' w.heap.size (fun _ => True) v221 t220) ∧ Aside0 (Kd.R Kd.bool 4 w' w.heap.size (fun _ => True) v224 t223) ∧ Aside0 (Below w.heap.size w w'))
 case atStart => exact ⟨(0), (by first | rfl | (simp; done) | (simp [*]; done)), H', ⟨Nat.le_refl _⟩, ⟨by (with_reducible repeat (first | apply Kd.S_alloc | apply Kd.S_drewN | apply Kd.S_drew)); exact HO216.out⟩, ⟨by (with_reducible repeat (first | apply Kd.S_alloc | apply Kd.S_drewN | apply Kd.S_drew)); exact HO219.out⟩, ⟨by (with_reducible repeat (first | apply Kd.R_alloc | apply Kd.R_drewN | apply Kd.R_drew)); exact HO222.out⟩, ⟨by (with_reducible repeat (first | apply Kd.R_alloc | apply Kd.R_drewN | apply Kd.R_drew)); exact HO225.out⟩, ⟨by repeat (first | (with_reducible first | exact HB.out | apply below_alloc | apply pw_below_drewN | apply below_drew1) | exact HB.out)⟩⟩
 case round => (
 clear H'
 try clear c1
 try clear p2
 try clear c3
 obtain ⟨x9_1, rfl, HA, HK1, HO_5, HO_6, HO_7, HO_8, HB⟩ := hrel
 cases gk with
 | zero => exact absurd HA.out (by simp [interlocklaw12_LoopBacks.l0])
 | succ k1 => (
 have H := HA.out
 clear HA
 simp only [interlocklaw12_LoopBacks.l0] at H
 by_cases c12 : x9_1 < (t214.length : Int)
 {
 rw [if_pos c12] at H
 have c12b0 : decide (x9_1 < (t214.length : Int)) = true := decide_eq_true c12
 clear c12
 have H' := Aside0.mk H
 clear H
 go_wp2
 repeat (go_quiet (fail); try go_wp2)
 go_loopg [10] k1 (fun kq v10 w' => ∃ (x10_2 : Int), v10 = .int .i64 x10_2 ∧ Aside0 (interlocklaw12_LoopBacks.l1 kq t214 t217 t220 t223 x9_1 x10_2 = some r) ∧ Aside0 (kq ≤ k1) ∧ Aside0 (Kd.S (Kd.slice 3 (Kd.int .i64)) 31 w' w.heap.size (fun _ => True) (.slice Ao8 t214.length co8) t214) ∧ Aside0 (Kd.S k35 35 w' w.heap.size (fun _ => True) v218 t217) ∧ Aside0 (Kd.R (Kd.int .u64) 33 w' w.heap.size (fun _ => True) v221 t220) ∧ Aside0 (Kd.R Kd.bool 4 w' w.heap.size (fun _ => True) v224 t223) ∧ Aside0 (Below w.heap.size w w'))
 case atStart => exact ⟨(0), (by first | rfl | (simp; done) | (simp [*]; done)), H', ⟨Nat.le_refl _⟩, ⟨by (with_reducible repeat (first | apply Kd.S_alloc | apply Kd.S_drewN | apply Kd.S_drew)); exact HO_5.out⟩, ⟨by (with_reducible repeat (first | apply Kd.S_alloc | apply Kd.S_drewN | apply Kd.S_drew)); exact HO_6.out⟩, ⟨by (with_reducible repeat (first | apply Kd.R_alloc | apply Kd.R_drewN | apply Kd.R_drew)); exact HO_7.out⟩, ⟨by (with_reducible repeat (first | apply Kd.R_alloc | apply Kd.R_drewN | apply Kd.R_drew)); exact HO_8.out⟩, ⟨by repeat (first | (with_reducible first | exact HB.out | apply below_alloc | apply pw_below_drewN | apply below_drew1) | exact HB.out)⟩⟩
 case round => (
 clear H'
 try clear c1
 try clear p2
 try clear c3
 try clear c12
 try clear c12b0
 try clear p2
 obtain ⟨x10_2, rfl, HA, HK2, HO_5, HO_6, HO_7, HO_8, HB⟩ := hrel
 cases gk with
 | zero => exact absurd HA.out (by simp [interlocklaw12_LoopBacks.l1])
 | succ k2 => (
 have H := HA.out
 clear HA
 simp only [interlocklaw12_LoopBacks.l1] at H
 by_cases c13 : 0 ≤ x9_1
 {
 rw [if_pos c13] at H
 have c13b0 : decide (0 ≤ x9_1) = true := decide_eq_true c13
 clear c13
 by_cases c14 : x9_1 < (t214.length : Int)
 {
 rw [if_pos c14] at H
 have c14b0 : decide (x9_1 < (t214.length : Int)) = true := decide_eq_true c14
 clear c14
 by_cases c15 : x10_2 < ((rd_L1 t214 x9_1).length : Int)
 {
 rw [if_pos c15] at H
 have c15b0 : decide (x10_2 < ((rd_L1 t214 x9_1).length : Int)) = true := decide_eq_true c15
 clear c15
 by_cases c16 : 0 ≤ x10_2
 {
 rw [if_pos c16] at H
 have c16b0 : decide (0 ≤ x10_2) = true := decide_eq_true c16
 clear c16
 have HC17 := Aside0.mk H
 clear H
 have p226 : 0 ≤ (x9_1 : Int) := of_decide_eq_true (by first | (with_reducible assumption) | assumption)
 have q226 : x9_1 < (t214.length : Int) := of_decide_eq_true (by first | (with_reducible assumption) | assumption)
 obtain ⟨ad226, A226_0, c226_0, e226, hx226_0, hl226_0, hi226_0⟩ := at_L1 (Kd.S_reads' HO_5.out).2.2 x9_1 p226 q226
 cases e226
 obtain ⟨ce226, hce226, hMe226, hcc226⟩ := Kd.S_get HO_5.out [] x9_1 p226 (by first | exact q226 | exact of_decide_eq_true (by first | (with_reducible assumption) | assumption) | (have e_ := (Kd.S_reads' HO_5.out).1; omega))
 obtain ⟨ve226_0, rfl, ge226_0⟩ := hMe226
 have hv226_0 := hcc226 0 _ rfl
 rw [Nat.add_zero, show ((Kd.slice 3 (Kd.int .i64))).sz = 1 from rfl, Nat.mul_one] at hv226_0
 replace hv226_0 := Option.some.inj (hv226_0.symm.trans hx226_0)
 rw [hv226_0] at ge226_0
 have HL226_0 := Aside0.mk (show Kd.R (Kd.int .i64) 3 _ _ _ _ (rd_L1 t214 x9_1) from ge226_0)
 clear hv226_0 ge226_0
 clear hcc226 hce226
 have HR226_0 := Aside0.mk hi226_0
 have HC226_0 := Aside0.mk hl226_0
 clear hi226_0 hl226_0
 replace p226 := eq_true p226
 replace q226 := eq_true q226
 have p227 : 0 ≤ (x9_1 : Int) := of_decide_eq_true (by first | (with_reducible assumption) | assumption)
 have q227 : x9_1 < (t214.length : Int) := of_decide_eq_true (by first | (with_reducible assumption) | assumption)
 obtain ⟨ad227, A227_0, c227_0, e227, hx227_0, hl227_0, hi227_0⟩ := at_L1 (Kd.S_reads' HO_5.out).2.2 x9_1 p227 q227
 obtain rfl : ad226 = ad227 := (by injection e227)
 obtain ⟨ce227, hce227, hMe227, hcc227⟩ := Kd.S_get HO_5.out [] x9_1 p227 (by first | exact q227 | exact of_decide_eq_true (by first | (with_reducible assumption) | assumption) | (have e_ := (Kd.S_reads' HO_5.out).1; omega))
 obtain ⟨ve227_0, rfl, ge227_0⟩ := hMe227
 have hv227_0 := hcc227 0 _ rfl
 rw [Nat.add_zero, show ((Kd.slice 3 (Kd.int .i64))).sz = 1 from rfl, Nat.mul_one] at hv227_0
 replace hv227_0 := Option.some.inj (hv227_0.symm.trans hx227_0)
 rw [hv227_0] at ge227_0
 have HL227_0 := Aside0.mk (show Kd.R (Kd.int .i64) 3 _ _ _ _ (rd_L1 t214 x9_1) from ge227_0)
 clear hv227_0 ge227_0
 clear hcc227 hce227
 have HR227_0 := Aside0.mk hi227_0
 have HC227_0 := Aside0.mk hl227_0
 clear hi227_0 hl227_0
 replace p227 := eq_true p227
 replace q227 := eq_true q227
 have ea_ := Option.some.inj (hx226_0.symm.trans hx227_0)
 injection ea_ with ea_ en_ ec_
 subst ea_
 subst ec_
 clear en_
 have p228 : 0 ≤ (x10_2 : Int) := of_decide_eq_true (by first | (with_reducible assumption) | assumption)
 have q228 : x10_2 < ((rd_L1 t214 x9_1).length : Int) := of_decide_eq_true (by first | (with_reducible assumption) | assumption)
 obtain ⟨ad228, e228, hx228_0⟩ := Kd.at_int (by repeat (first | (with_reducible exact HR227_0.out) | (with_reducible refine Kd.C_alloc ?_ _) | (with_reducible refine Kd.C_drewN ?_ _) | (with_reducible refine Kd.C_drew ?_) | exact HR227_0.out)) x10_2 p228 q228
 cases e228
 replace p228 := eq_true p228
 replace q228 := eq_true q228
 go_upto_region 12 with (fail)
 repeat (go_quiet (fail); go_upto_region 12 with (fail))
 go_cut [72] (fun v72 wc => ∃ (kq : Nat) (x72_16 : Bool), v72 = .bool x72_16 ∧ Aside0 (interlocklaw12_LoopBacks.j2 kq t214 t217 t220 t223 x9_1 x10_2 (rd (rd_L1 t214 x9_1) x10_2) x72_16 = some r) ∧ Aside0 (kq ≤ k2) ∧ Aside0 (Kd.S (Kd.slice 3 (Kd.int .i64)) 31 wc w.heap.size (fun _ => True) (.slice (some ad226) t214.length co8) t214) ∧ Aside0 (Kd.S k35 35 wc w.heap.size (fun _ => True) v218 t217) ∧ Aside0 (Kd.R (Kd.int .u64) 33 wc w.heap.size (fun _ => True) v221 t220) ∧ Aside0 (Kd.R Kd.bool 4 wc w.heap.size (fun _ => True) v224 t223) ∧ Aside0 (Kd.C (Kd.int .i64) wc (some ad228) (rd_L1 t214 x9_1).length (rd_L1 t214 x9_1)) ∧ Aside0 (Kd.C (Kd.int .i64) wc (some ad228) (rd_L1 t214 x9_1).length (rd_L1 t214 x9_1)) ∧ Aside0 (Below w.heap.size w wc))
 case first => (
 have H := HC17.out
 clear HC17
 by_cases c18 : x9_1 < (t223.length : Int)
 {
 rw [if_pos c18] at H
 have c18b0 : decide (x9_1 < (t223.length : Int)) = true := decide_eq_true c18
 clear c18
 (first | rw [c18b0] | (simp only [i64_w, i32_w]; rw [c18b0]) | skip)
 obtain ⟨bq19, hbq19⟩ : ∃ b_ : Bool, b_ = (rdOf false t223 x9_1) := ⟨_, rfl⟩
 replace H : (if bq19 = true then (if (rd (rd_L1 t214 x9_1) x10_2) < 0 then (interlocklaw12_LoopBacks.j2 k2 t214 t217 t220 t223 x9_1 x10_2 (rd (rd_L1 t214 x9_1) x10_2) true) else (if (rd (rd_L1 t214 x9_1) x10_2) ≥ (t214.length : Int) then (interlocklaw12_LoopBacks.j2 k2 t214 t217 t220 t223 x9_1 x10_2 (rd (rd_L1 t214 x9_1) x10_2) true) else (if x9_1 < (t220.length : Int) then ((interlockref01_Has.f k2 (rd t220 x9_1) (rd (rd_L1 t214 x9_1) x10_2)).bind fun t231 => (interlocklaw12_LoopBacks.j2 k2 t214 t217 t220 t223 x9_1 x10_2 (rd (rd_L1 t214 x9_1) x10_2) (!t231))) else (none)))) else (interlocklaw12_LoopBacks.j2 k2 t214 t217 t220 t223 x9_1 x10_2 (rd (rd_L1 t214 x9_1) x10_2) true)) = some r := by rw [← hbq19] at H; exact H
 have Nbq19 := Aside0.mk hbq19
 clear hbq19
 by_cases c20 : bq19 = true
 {
 subst c20
 have H1 : (if (rd (rd_L1 t214 x9_1) x10_2) < 0 then (interlocklaw12_LoopBacks.j2 k2 t214 t217 t220 t223 x9_1 x10_2 (rd (rd_L1 t214 x9_1) x10_2) true) else (if (rd (rd_L1 t214 x9_1) x10_2) ≥ (t214.length : Int) then (interlocklaw12_LoopBacks.j2 k2 t214 t217 t220 t223 x9_1 x10_2 (rd (rd_L1 t214 x9_1) x10_2) true) else (if x9_1 < (t220.length : Int) then ((interlockref01_Has.f k2 (rd t220 x9_1) (rd (rd_L1 t214 x9_1) x10_2)).bind fun t231 => (interlocklaw12_LoopBacks.j2 k2 t214 t217 t220 t223 x9_1 x10_2 (rd (rd_L1 t214 x9_1) x10_2) (!t231))) else (none)))) = some r := by rw [if_pos rfl] at H; exact H
 clear H
 have H := H1
 clear H1
 by_cases c21 : (rd (rd_L1 t214 x9_1) x10_2) < 0
 {
 rw [if_pos c21] at H
 have c21b0 : decide ((rd (rd_L1 t214 x9_1) x10_2) < 0) = true := decide_eq_true c21
 clear c21
 have H' := Aside0.mk H
 clear H
 obtain ⟨Ao22, co22, eo22⟩ := Kd.R_slice HO_8.out
 subst eo22
 have p229 : 0 ≤ (x9_1 : Int) := of_decide_eq_true (by first | (with_reducible assumption) | assumption)
 have q229 : x9_1 < (t223.length : Int) := of_decide_eq_true (by first | (with_reducible assumption) | assumption)
 obtain ⟨ad229, e229, hx229_0⟩ := Kd.at_bool (Kd.R_reads' HO_8.out).2.2 x9_1 p229 q229
 (try rw [← Nbq19.out] at hx229_0)
 cases e229
 replace p229 := eq_true p229
 replace q229 := eq_true q229
 go_wp2
 repeat (go_quiet (fail); try go_wp2)
 go_meet
 case rel => exact ⟨_, (true), (by first | rfl | (simp; done) | (simp [*]; done)), H', ⟨by have := HK1.out; have := HK2.out; first | omega | exact Nat.le_refl _⟩, ⟨by (with_reducible repeat (first | apply Kd.S_alloc | apply Kd.S_drewN | apply Kd.S_drew)); exact HO_5.out⟩, ⟨by (with_reducible repeat (first | apply Kd.S_alloc | apply Kd.S_drewN | apply Kd.S_drew)); exact HO_6.out⟩, ⟨by (with_reducible repeat (first | apply Kd.R_alloc | apply Kd.R_drewN | apply Kd.R_drew)); exact HO_7.out⟩, ⟨by (with_reducible repeat (first | apply Kd.R_alloc | apply Kd.R_drewN | apply Kd.R_drew)); exact HO_8.out⟩, ⟨by repeat (first | (with_reducible exact HR226_0.out) | (with_reducible refine Kd.C_alloc ?_ _) | (with_reducible refine Kd.C_drewN ?_ _) | (with_reducible refine Kd.C_drew ?_) | exact HR226_0.out)⟩, ⟨by repeat (first | (with_reducible exact HR227_0.out) | (with_reducible refine Kd.C_alloc ?_ _) | (with_reducible refine Kd.C_drewN ?_ _) | (with_reducible refine Kd.C_drew ?_) | exact HR227_0.out)⟩, ⟨by repeat (first | (with_reducible first | exact HB.out | apply below_alloc | apply pw_below_drewN | apply below_drew1) | exact HB.out)⟩⟩
 }
 {
 rw [if_neg c21] at H
 have c21b0 : decide ((rd (rd_L1 t214 x9_1) x10_2) < 0) = false := decide_eq_false c21
 clear c21
 by_cases c23 : (rd (rd_L1 t214 x9_1) x10_2) ≥ (t214.length : Int)
 {
 rw [if_pos c23] at H
 have c23b0 : decide ((t214.length : Int) ≤ (rd (rd_L1 t214 x9_1) x10_2)) = true := decide_eq_true c23
 clear c23
 have H' := Aside0.mk H
 clear H
 obtain ⟨Ao24, co24, eo24⟩ := Kd.R_slice HO_8.out
 subst eo24
 have p229 : 0 ≤ (x9_1 : Int) := of_decide_eq_true (by first | (with_reducible assumption) | assumption)
 have q229 : x9_1 < (t223.length : Int) := of_decide_eq_true (by first | (with_reducible assumption) | assumption)
 obtain ⟨ad229, e229, hx229_0⟩ := Kd.at_bool (Kd.R_reads' HO_8.out).2.2 x9_1 p229 q229
 (try rw [← Nbq19.out] at hx229_0)
 cases e229
 replace p229 := eq_true p229
 replace q229 := eq_true q229
 go_wp2
 repeat (go_quiet (fail); try go_wp2)
 go_meet
 case rel => exact ⟨_, (true), (by first | rfl | (simp; done) | (simp [*]; done)), H', ⟨by have := HK1.out; have := HK2.out; first | omega | exact Nat.le_refl _⟩, ⟨by (with_reducible repeat (first | apply Kd.S_alloc | apply Kd.S_drewN | apply Kd.S_drew)); exact HO_5.out⟩, ⟨by (with_reducible repeat (first | apply Kd.S_alloc | apply Kd.S_drewN | apply Kd.S_drew)); exact HO_6.out⟩, ⟨by (with_reducible repeat (first | apply Kd.R_alloc | apply Kd.R_drewN | apply Kd.R_drew)); exact HO_7.out⟩, ⟨by (with_reducible repeat (first | apply Kd.R_alloc | apply Kd.R_drewN | apply Kd.R_drew)); exact HO_8.out⟩, ⟨by repeat (first | (with_reducible exact HR226_0.out) | (with_reducible refine Kd.C_alloc ?_ _) | (with_reducible refine Kd.C_drewN ?_ _) | (with_reducible refine Kd.C_drew ?_) | exact HR226_0.out)⟩, ⟨by repeat (first | (with_reducible exact HR227_0.out) | (with_reducible refine Kd.C_alloc ?_ _) | (with_reducible refine Kd.C_drewN ?_ _) | (with_reducible refine Kd.C_drew ?_) | exact HR227_0.out)⟩, ⟨by repeat (first | (with_reducible first | exact HB.out | apply below_alloc | apply pw_below_drewN | apply below_drew1) | exact HB.out)⟩⟩
 }
 {
 rw [if_neg c23] at H
 have c23b0 : decide ((t214.length : Int) ≤ (rd (rd_L1 t214 x9_1) x10_2)) = false := decide_eq_false c23
 clear c23
 by_cases c25 : x9_1 < (t220.length : Int)
 {
 rw [if_pos c25] at H
 have c25b0 : decide (x9_1 < (t220.length : Int)) = true := decide_eq_true c25
 clear c25
 replace H := Option.bind_eq_some_iff.mp H
 obtain ⟨t231, A260, H⟩ := H
 replace H : (interlocklaw12_LoopBacks.j2 k2 t214 t217 t220 t223 x9_1 x10_2 (rd (rd_L1 t214 x9_1) x10_2) (!t231)) = some r := H
 have A26 := Aside0.mk A260
 clear A260
 have H' := Aside0.mk H
 clear H
 obtain ⟨Ao27, co27, eo27⟩ := Kd.R_slice HO_8.out
 subst eo27
 have p229 : 0 ≤ (x9_1 : Int) := of_decide_eq_true (by first | (with_reducible assumption) | assumption)
 have q229 : x9_1 < (t223.length : Int) := of_decide_eq_true (by first | (with_reducible assumption) | assumption)
 obtain ⟨ad229, e229, hx229_0⟩ := Kd.at_bool (Kd.R_reads' HO_8.out).2.2 x9_1 p229 q229
 (try rw [← Nbq19.out] at hx229_0)
 cases e229
 replace p229 := eq_true p229
 replace q229 := eq_true q229
 obtain ⟨Ao28, co28, eo28⟩ := Kd.R_slice HO_7.out
 subst eo28
 have p230 : 0 ≤ (x9_1 : Int) := of_decide_eq_true (by first | (with_reducible assumption) | assumption)
 have q230 : x9_1 < (t220.length : Int) := of_decide_eq_true (by first | (with_reducible assumption) | assumption)
 obtain ⟨ad230, e230, hx230_0⟩ := Kd.at_int (Kd.R_reads' HO_7.out).2.2 x9_1 p230 q230
 cases e230
 replace p230 := eq_true p230
 replace q230 := eq_true q230
 go_wp2_with (first | (go_at_call 12; (with_reducible refine (interlockref01_Has.calls k2 (rd t220 x9_1) (rd (rd_L1 t214 x9_1) x10_2) t231 _ A26.out).mono ?_); rintro e w' ⟨rfl, ⟨nd, rfl⟩⟩; (try first | exact ⟨rfl, _, World.drewN_drewN _ _ _⟩ | exact ⟨rfl, _, Eq.trans (World.drewN_drewN _ _ _) (congrArg (World.drewN _) (Nat.add_assoc _ _ _))⟩)))
 repeat (go_quiet (first | (go_at_call 12; (with_reducible refine (interlockref01_Has.calls k2 (rd t220 x9_1) (rd (rd_L1 t214 x9_1) x10_2) t231 _ A26.out).mono ?_); rintro e w' ⟨rfl, ⟨nd, rfl⟩⟩; (try first | exact ⟨rfl, _, World.drewN_drewN _ _ _⟩ | exact ⟨rfl, _, Eq.trans (World.drewN_drewN _ _ _) (congrArg (World.drewN _) (Nat.add_assoc _ _ _))⟩))); try go_wp2_with (first | (go_at_call 12; (with_reducible refine (interlockref01_Has.calls k2 (rd t220 x9_1) (rd (rd_L1 t214 x9_1) x10_2) t231 _ A26.out).mono ?_); rintro e w' ⟨rfl, ⟨nd, rfl⟩⟩; (try first | exact ⟨rfl, _, World.drewN_drewN _ _ _⟩ | exact ⟨rfl, _, Eq.trans (World.drewN_drewN _ _ _) (congrArg (World.drewN _) (Nat.add_assoc _ _ _))⟩))))
 go_meet
 case rel => exact ⟨_, (!t231), (by first | rfl | (simp; done) | (simp [*]; done)), H', ⟨by have := HK1.out; have := HK2.out; first | omega | exact Nat.le_refl _⟩, ⟨by (with_reducible repeat (first | apply Kd.S_alloc | apply Kd.S_drewN | apply Kd.S_drew)); exact HO_5.out⟩, ⟨by (with_reducible repeat (first | apply Kd.S_alloc | apply Kd.S_drewN | apply Kd.S_drew)); exact HO_6.out⟩, ⟨by (with_reducible repeat (first | apply Kd.R_alloc | apply Kd.R_drewN | apply Kd.R_drew)); exact HO_7.out⟩, ⟨by (with_reducible repeat (first | apply Kd.R_alloc | apply Kd.R_drewN | apply Kd.R_drew)); exact HO_8.out⟩, ⟨by repeat (first | (with_reducible exact HR226_0.out) | (with_reducible refine Kd.C_alloc ?_ _) | (with_reducible refine Kd.C_drewN ?_ _) | (with_reducible refine Kd.C_drew ?_) | exact HR226_0.out)⟩, ⟨by repeat (first | (with_reducible exact HR227_0.out) | (with_reducible refine Kd.C_alloc ?_ _) | (with_reducible refine Kd.C_drewN ?_ _) | (with_reducible refine Kd.C_drew ?_) | exact HR227_0.out)⟩, ⟨by repeat (first | (with_reducible first | exact HB.out | apply below_alloc | apply pw_below_drewN | apply below_drew1) | exact HB.out)⟩⟩
 }
 {
 rw [if_neg c25] at H
 exact absurd H (by simp)
 }
 }
 }
 }
 {
 replace c20 := Bool.eq_false_iff.mpr c20
 subst c20
 have H1 : (interlocklaw12_LoopBacks.j2 k2 t214 t217 t220 t223 x9_1 x10_2 (rd (rd_L1 t214 x9_1) x10_2) true) = some r := by rw [if_neg (show ¬ (false = true) by decide)] at H; exact H
 clear H
 have H := H1
 clear H1
 have H' := Aside0.mk H
 clear H
 obtain ⟨Ao29, co29, eo29⟩ := Kd.R_slice HO_8.out
 subst eo29
 have p229 : 0 ≤ (x9_1 : Int) := of_decide_eq_true (by first | (with_reducible assumption) | assumption)
 have q229 : x9_1 < (t223.length : Int) := of_decide_eq_true (by first | (with_reducible assumption) | assumption)
 obtain ⟨ad229, e229, hx229_0⟩ := Kd.at_bool (Kd.R_reads' HO_8.out).2.2 x9_1 p229 q229
 (try rw [← Nbq19.out] at hx229_0)
 cases e229
 replace p229 := eq_true p229
 replace q229 := eq_true q229
 go_wp2
 repeat (go_quiet (fail); try go_wp2)
 go_meet
 case rel => exact ⟨_, (true), (by first | rfl | (simp; done) | (simp [*]; done)), H', ⟨by have := HK1.out; have := HK2.out; first | omega | exact Nat.le_refl _⟩, ⟨by (with_reducible repeat (first | apply Kd.S_alloc | apply Kd.S_drewN | apply Kd.S_drew)); exact HO_5.out⟩, ⟨by (with_reducible repeat (first | apply Kd.S_alloc | apply Kd.S_drewN | apply Kd.S_drew)); exact HO_6.out⟩, ⟨by (with_reducible repeat (first | apply Kd.R_alloc | apply Kd.R_drewN | apply Kd.R_drew)); exact HO_7.out⟩, ⟨by (with_reducible repeat (first | apply Kd.R_alloc | apply Kd.R_drewN | apply Kd.R_drew)); exact HO_8.out⟩, ⟨by repeat (first | (with_reducible exact HR226_0.out) | (with_reducible refine Kd.C_alloc ?_ _) | (with_reducible refine Kd.C_drewN ?_ _) | (with_reducible refine Kd.C_drew ?_) | exact HR226_0.out)⟩, ⟨by repeat (first | (with_reducible exact HR227_0.out) | (with_reducible refine Kd.C_alloc ?_ _) | (with_reducible refine Kd.C_drewN ?_ _) | (with_reducible refine Kd.C_drew ?_) | exact HR227_0.out)⟩, ⟨by repeat (first | (with_reducible first | exact HB.out | apply below_alloc | apply pw_below_drewN | apply below_drew1) | exact HB.out)⟩⟩
 }
 }
 {
 rw [if_neg c18] at H
 exact absurd H (by simp)
 }
 )
 case rest => (
 clear HC17
 try clear c1
 try clear q1
 try clear c2
 try clear p2
 try clear q2
 try clear hx2
 try clear c3
 try clear c12
 try clear c12b0
 try clear c13
 try clear c13b0
 try clear c14
 try clear c14b0
 try clear c15
 try clear c15b0
 try clear c16
 try clear c16b0
 try clear c18
 try clear c18b0
 try clear q19
 try clear c20
 try clear c21
 try clear c21b0
 try clear c22
 try clear p22
 try clear q22
 try clear hx22
 try clear c23
 try clear c23b0
 try clear p23
 try clear q23
 try clear hx23
 try clear c25
 try clear c25b0
 try clear hx226_0
 try clear hx227_0
 try clear hx228_0
 try clear hx229_0
 try clear hx230_0
 try clear p2
 try clear p226
 try clear p227
 try clear p228
 try clear p229
 try clear p230
 try clear q226
 try clear q227
 try clear q228
 try clear q229
 try clear q230
 obtain ⟨kq, x72_16, rfl, HA, HJ16, HO_5, HO_6, HO_7, HO_8, HR226_0, HR227_0, HB⟩ := hcut
 cases kq with
 | zero => exact absurd HA.out (by simp [interlocklaw12_LoopBacks.j2])
 | succ kj16 => (
 have H := HA.out
 clear HA
 simp only [interlocklaw12_LoopBacks.j2] at H
 by_cases c30 : x72_16 = true
 {
 subst c30
 have H1 : (interlocklaw12_LoopBacks.l1 kj16 t214 t217 t220 t223 x9_1 (wrap64 (x10_2 + 1))) = some r := by rw [if_pos rfl] at H; exact H
 clear H
 have H := H1
 clear H1
 have H' := Aside0.mk H
 clear H
 go_wp2
 repeat (go_quiet (fail); try go_wp2)
 go_roundg kj16
 case measure => have := HK1.out; have := HK2.out; have := HJ16.out; omega
 case rel => exact ⟨(wrap64 (x10_2 + 1)), (by first | rfl | (simp; done) | (simp [*]; done)), H', ⟨by have := HK1.out; have := HK2.out; have := HJ16.out; omega⟩, ⟨by (with_reducible repeat (first | apply Kd.S_alloc | apply Kd.S_drewN | apply Kd.S_drew)); exact HO_5.out⟩, ⟨by (with_reducible repeat (first | apply Kd.S_alloc | apply Kd.S_drewN | apply Kd.S_drew)); exact HO_6.out⟩, ⟨by (with_reducible repeat (first | apply Kd.R_alloc | apply Kd.R_drewN | apply Kd.R_drew)); exact HO_7.out⟩, ⟨by (with_reducible repeat (first | apply Kd.R_alloc | apply Kd.R_drewN | apply Kd.R_drew)); exact HO_8.out⟩, ⟨by repeat (first | (with_reducible first | exact HB.out | apply below_alloc | apply pw_below_drewN | apply below_drew1) | exact HB.out)⟩⟩
 }
 {
 replace c30 := Bool.eq_false_iff.mpr c30
 subst c30
 have H1 : (interlocklaw12_LoopBacks.l2 kj16 t214 t217 t220 t223 x9_1 x10_2 (rd (rd_L1 t214 x9_1) x10_2) false 0) = some r := by rw [if_neg (show ¬ (false = true) by decide)] at H; exact H
 clear H
 have H := H1
 clear H1
 have H' := Aside0.mk H
 clear H
 go_wp2
 repeat (go_quiet (fail); try go_wp2)
 go_loopg [12, 13] kj16 (fun kq v12 v13 w' => ∃ (x12_4 : Bool) (x13_4 : Int), v12 = .bool x12_4 ∧ v13 = .int .i64 x13_4 ∧ Aside0 (interlocklaw12_LoopBacks.l2 kq t214 t217 t220 t223 x9_1 x10_2 (rd (rd_L1 t214 x9_1) x10_2) x12_4 x13_4 = some r) ∧ Aside0 (kq ≤ kj16) ∧ Aside0 (Kd.S (Kd.slice 3 (Kd.int .i64)) 31 w' w.heap.size (fun _ => True) (.slice (some ad226) t214.length co8) t214) ∧ Aside0 (Kd.S k35 35 w' w.heap.size (fun _ => True) v218 t217) ∧ Aside0 (Kd.R (Kd.int .u64) 33 w' w.heap.size (fun _ => True) v221 t220) ∧ Aside0 (Kd.R Kd.bool 4 w' w.heap.size (fun _ => True) v224 t223) ∧ Aside0 (Kd.C (Kd.int .i64) w' (some ad228) (rd_L1 t214 x9_1).length (rd_L1 t214 x9_1)) ∧ Aside0 (Kd.C (Kd.int .i64) w' (some ad228) (rd_L1 t214 x9_1).length (rd_L1 t214 x9_1)) ∧ Aside0 (Below w.heap.size w w'))
 case atStart => exact ⟨(false), (0), (by first | rfl | (simp; done) | (simp [*]; done)), (by first | rfl | (simp; done) | (simp [*]; done)), H', ⟨Nat.le_refl _⟩, ⟨by (with_reducible repeat (first | apply Kd.S_alloc | apply Kd.S_drewN | apply Kd.S_drew)); exact HO_5.out⟩, ⟨by (with_reducible repeat (first | apply Kd.S_alloc | apply Kd.S_drewN | apply Kd.S_drew)); exact HO_6.out⟩, ⟨by (with_reducible repeat (first | apply Kd.R_alloc | apply Kd.R_drewN | apply Kd.R_drew)); exact HO_7.out⟩, ⟨by (with_reducible repeat (first | apply Kd.R_alloc | apply Kd.R_drewN | apply Kd.R_drew)); exact HO_8.out⟩, ⟨by repeat (first | (with_reducible exact HR226_0.out) | (with_reducible refine Kd.C_alloc ?_ _) | (with_reducible refine Kd.C_drewN ?_ _) | (with_reducible refine Kd.C_drew ?_) | exact HR226_0.out)⟩, ⟨by repeat (first | (with_reducible exact HR227_0.out) | (with_reducible refine Kd.C_alloc ?_ _) | (with_reducible refine Kd.C_drewN ?_ _) | (with_reducible refine Kd.C_drew ?_) | exact HR227_0.out)⟩, ⟨by repeat (first | (with_reducible first | exact HB.out | apply below_alloc | apply pw_below_drewN | apply below_drew1) | exact HB.out)⟩⟩
 case round => (
 clear H'
 try clear c1
 try clear q1
 try clear c2
 try clear p2
 try clear q2
 try clear hx2
 try clear c3
 try clear p6
 try clear c12
 try clear c12b0
 try clear c13
 try clear c13b0
 try clear c14
 try clear c14b0
 try clear c15
 try clear c15b0
 try clear c16
 try clear c16b0
 try clear c18
 try clear c18b0
 try clear q19
 try clear c20
 try clear c21
 try clear c21b0
 try clear c22
 try clear p22
 try clear q22
 try clear hx22
 try clear c23
 try clear c23b0
 try clear p23
 try clear q23
 try clear hx23
 try clear c25
 try clear c25b0
 try clear c30
 try clear hx226_0
 try clear hx227_0
 try clear hx228_0
 try clear hx229_0
 try clear hx230_0
 try clear p2
 try clear p22
 try clear p226
 try clear p227
 try clear p228
 try clear p229
 try clear p23
 try clear p230
 try clear q1
 try clear q19
 try clear q2
 try clear q22
 try clear q226
 try clear q227
 try clear q228
 try clear q229
 try clear q23
 try clear q230
 obtain ⟨x12_4, x13_4, rfl, rfl, HA, HK4, HO_5, HO_6, HO_7, HO_8, HR226_0, HR227_0, HB⟩ := hrel
 cases gk with
 | zero => exact absurd HA.out (by simp [interlocklaw12_LoopBacks.l2])
 | succ k4 => (
 have H := HA.out
 clear HA
 simp only [interlocklaw12_LoopBacks.l2] at H
 by_cases c31 : x13_4 < (t217.length : Int)
 {
 rw [if_pos c31] at H
 have c31b0 : decide (x13_4 < (t217.length : Int)) = true := decide_eq_true c31
 clear c31
 by_cases c32 : x12_4 = true
 {
 subst c32
 have H1 : (interlocklaw12_LoopBacks.l2 k4 t214 t217 t220 t223 x9_1 x10_2 (rd (rd_L1 t214 x9_1) x10_2) true (wrap64 (x13_4 + 1))) = some r := by rw [if_pos rfl] at H; exact H
 clear H
 have H := H1
 clear H1
 have H' := Aside0.mk H
 clear H
 obtain ⟨Ao33, co33, eo33⟩ := Kd.S_slice HO_6.out
 subst eo33
 go_wp2
 repeat (go_quiet (fail); try go_wp2)
 go_roundg k4
 case measure => have := HK1.out; have := HK2.out; have := HJ16.out; have := HK4.out; omega
 case rel => exact ⟨(true), (wrap64 (x13_4 + 1)), (by first | rfl | (simp; done) | (simp [*]; done)), (by first | rfl | (simp; done) | (simp [*]; done)), H', ⟨by have := HK1.out; have := HK2.out; have := HJ16.out; have := HK4.out; omega⟩, ⟨by (with_reducible repeat (first | apply Kd.S_alloc | apply Kd.S_drewN | apply Kd.S_drew)); exact HO_5.out⟩, ⟨by (with_reducible repeat (first | apply Kd.S_alloc | apply Kd.S_drewN | apply Kd.S_drew)); exact HO_6.out⟩, ⟨by (with_reducible repeat (first | apply Kd.R_alloc | apply Kd.R_drewN | apply Kd.R_drew)); exact HO_7.out⟩, ⟨by (with_reducible repeat (first | apply Kd.R_alloc | apply Kd.R_drewN | apply Kd.R_drew)); exact HO_8.out⟩, ⟨by repeat (first | (with_reducible exact HR226_0.out) | (with_reducible refine Kd.C_alloc ?_ _) | (with_reducible refine Kd.C_drewN ?_ _) | (with_reducible refine Kd.C_drew ?_) | exact HR226_0.out)⟩, ⟨by repeat (first | (with_reducible exact HR227_0.out) | (with_reducible refine Kd.C_alloc ?_ _) | (with_reducible refine Kd.C_drewN ?_ _) | (with_reducible refine Kd.C_drew ?_) | exact HR227_0.out)⟩, ⟨by repeat (first | (with_reducible first | exact HB.out | apply below_alloc | apply pw_below_drewN | apply below_drew1) | exact HB.out)⟩⟩
 }
 {
 replace c32 := Bool.eq_false_iff.mpr c32
 subst c32
 have H1 : (if 0 ≤ x13_4 then (if ((rd_T35 t217 x13_4).f0) = (rd (rd_L1 t214 x9_1) x10_2) then ((interlocklaw12_has.f k4 ((rd_T35 t217 x13_4).f1) x9_1).bind fun t234 => (interlocklaw12_LoopBacks.l2 k4 t214 t217 t220 t223 x9_1 x10_2 (rd (rd_L1 t214 x9_1) x10_2) t234 (wrap64 (x13_4 + 1)))) else (interlocklaw12_LoopBacks.l2 k4 t214 t217 t220 t223 x9_1 x10_2 (rd (rd_L1 t214 x9_1) x10_2) false (wrap64 (x13_4 + 1)))) else (none)) = some r := by rw [if_neg (show ¬ (false = true) by decide)] at H; exact H
 clear H
 have H := H1
 clear H1
 by_cases c34 : 0 ≤ x13_4
 {
 rw [if_pos c34] at H
 have c34b0 : decide (0 ≤ x13_4) = true := decide_eq_true c34
 clear c34
 by_cases c35 : ((rd_T35 t217 x13_4).f0) = (rd (rd_L1 t214 x9_1) x10_2)
 {
 rw [if_pos c35] at H
 have c35b0 : (((rd_T35 t217 x13_4).f0) == (rd (rd_L1 t214 x9_1) x10_2)) = true := beq_iff_eq.mpr c35
 have c35b1 : (((rd_T35 t217 x13_4).f0) != (rd (rd_L1 t214 x9_1) x10_2)) = false := bne_eq_false_iff_eq.mpr c35
 clear c35
 replace H := Option.bind_eq_some_iff.mp H
 obtain ⟨t234, A360, H⟩ := H
 replace H : (interlocklaw12_LoopBacks.l2 k4 t214 t217 t220 t223 x9_1 x10_2 (rd (rd_L1 t214 x9_1) x10_2) t234 (wrap64 (x13_4 + 1))) = some r := H
 have A36 := Aside0.mk A360
 clear A360
 have H' := Aside0.mk H
 clear H
 obtain ⟨Ao37, co37, eo37⟩ := Kd.S_slice HO_6.out
 subst eo37
 have p232 : 0 ≤ (x13_4 : Int) := of_decide_eq_true (by first | (with_reducible assumption) | assumption)
 have q232 : x13_4 < (t217.length : Int) := of_decide_eq_true (by first | (with_reducible assumption) | assumption)
 obtain ⟨ad232, A232_1, c232_1, e232, hx232_0, hx232_1, hl232_1, hi232_1⟩ := at_T35 (Kd.S_reads' HO_6.out).2.2 x13_4 p232 q232
 cases e232
 obtain ⟨ce232, hce232, hMe232, hcc232⟩ := Kd.S_get HO_6.out z35 x13_4 p232 (by first | exact q232 | exact of_decide_eq_true (by first | (with_reducible assumption) | assumption) | (have e_ := (Kd.S_reads' HO_6.out).1; omega))
 obtain ⟨ve232_1, rfl, ge232_1⟩ := k35_openM hMe232
 have hv232_1 := hcc232 1 _ rfl
 rw [add_field _ _ 1 (by omega)] at hv232_1
 replace hv232_1 := Option.some.inj (hv232_1.symm.trans hx232_1)
 rw [hv232_1] at ge232_1
 have HL232_1 := Aside0.mk (show Kd.R (Kd.int .i64) 3 _ _ _ _ ((rd_T35 t217 x13_4).f1) from ge232_1)
 clear hv232_1 ge232_1
 clear hcc232 hce232
 have HR232_1 := Aside0.mk hi232_1
 have HC232_1 := Aside0.mk hl232_1
 clear hi232_1 hl232_1
 replace p232 := eq_true p232
 replace q232 := eq_true q232
 have p233 : 0 ≤ (x13_4 : Int) := of_decide_eq_true (by first | (with_reducible assumption) | assumption)
 have q233 : x13_4 < (t217.length : Int) := of_decide_eq_true (by first | (with_reducible assumption) | assumption)
 obtain ⟨ad233, A233_1, c233_1, e233, hx233_0, hx233_1, hl233_1, hi233_1⟩ := at_T35 (Kd.S_reads' HO_6.out).2.2 x13_4 p233 q233
 obtain rfl : ad232 = ad233 := (by injection e233)
 obtain ⟨ce233, hce233, hMe233, hcc233⟩ := Kd.S_get HO_6.out z35 x13_4 p233 (by first | exact q233 | exact of_decide_eq_true (by first | (with_reducible assumption) | assumption) | (have e_ := (Kd.S_reads' HO_6.out).1; omega))
 obtain ⟨ve233_1, rfl, ge233_1⟩ := k35_openM hMe233
 have hv233_1 := hcc233 1 _ rfl
 rw [add_field _ _ 1 (by omega)] at hv233_1
 replace hv233_1 := Option.some.inj (hv233_1.symm.trans hx233_1)
 rw [hv233_1] at ge233_1
 have HL233_1 := Aside0.mk (show Kd.R (Kd.int .i64) 3 _ _ _ _ ((rd_T35 t217 x13_4).f1) from ge233_1)
 clear hv233_1 ge233_1
 clear hcc233 hce233
 have HR233_1 := Aside0.mk hi233_1
 have HC233_1 := Aside0.mk hl233_1
 clear hi233_1 hl233_1
 replace p233 := eq_true p233
 replace q233 := eq_true q233
 have ea_ := Option.some.inj (hx232_1.symm.trans hx233_1)
 injection ea_ with ea_ en_ ec_
 subst ea_
 subst ec_
 clear en_
 go_wp2_with (first | (go_at_call 13; (with_reducible refine (interlocklaw12_has.calls k4 _ _ ((rd_T35 t217 x13_4).f1) x9_1 t234 _ ?side1 ?side2 A36.out).mono ?_); (case side1 => repeat (first | exact (by repeat (first | (with_reducible exact HR233_1.out) | (with_reducible refine Kd.C_alloc ?_ _) | (with_reducible refine Kd.C_drewN ?_ _) | (with_reducible refine Kd.C_drew ?_) | exact HR233_1.out)) | (with_reducible refine Kd.C_alloc ?_ _) | (with_reducible refine Kd.C_drewN ?_ _) | (with_reducible refine Kd.C_drew ?_))); (case side2 => exact HC233_1.out); rintro e w' ⟨rfl, ⟨nd, rfl⟩⟩; (try first | exact ⟨rfl, _, World.drewN_drewN _ _ _⟩ | exact ⟨rfl, _, Eq.trans (World.drewN_drewN _ _ _) (congrArg (World.drewN _) (Nat.add_assoc _ _ _))⟩)))
 repeat (go_quiet (first | (go_at_call 13; (with_reducible refine (interlocklaw12_has.calls k4 _ _ ((rd_T35 t217 x13_4).f1) x9_1 t234 _ ?side1 ?side2 A36.out).mono ?_); (case side1 => repeat (first | exact (by repeat (first | (with_reducible exact HR233_1.out) | (with_reducible refine Kd.C_alloc ?_ _) | (with_reducible refine Kd.C_drewN ?_ _) | (with_reducible refine Kd.C_drew ?_) | exact HR233_1.out)) | (with_reducible refine Kd.C_alloc ?_ _) | (with_reducible refine Kd.C_drewN ?_ _) | (with_reducible refine Kd.C_drew ?_))); (case side2 => exact HC233_1.out); rintro e w' ⟨rfl, ⟨nd, rfl⟩⟩; (try first | exact ⟨rfl, _, World.drewN_drewN _ _ _⟩ | exact ⟨rfl, _, Eq.trans (World.drewN_drewN _ _ _) (congrArg (World.drewN _) (Nat.add_assoc _ _ _))⟩))); try go_wp2_with (first | (go_at_call 13; (with_reducible refine (interlocklaw12_has.calls k4 _ _ ((rd_T35 t217 x13_4).f1) x9_1 t234 _ ?side1 ?side2 A36.out).mono ?_); (case side1 => repeat (first | exact (by repeat (first | (with_reducible exact HR233_1.out) | (with_reducible refine Kd.C_alloc ?_ _) | (with_reducible refine Kd.C_drewN ?_ _) | (with_reducible refine Kd.C_drew ?_) | exact HR233_1.out)) | (with_reducible refine Kd.C_alloc ?_ _) | (with_reducible refine Kd.C_drewN ?_ _) | (with_reducible refine Kd.C_drew ?_))); (case side2 => exact HC233_1.out); rintro e w' ⟨rfl, ⟨nd, rfl⟩⟩; (try first | exact ⟨rfl, _, World.drewN_drewN _ _ _⟩ | exact ⟨rfl, _, Eq.trans (World.drewN_drewN _ _ _) (congrArg (World.drewN _) (Nat.add_assoc _ _ _))⟩))))
 go_roundg k4
 case measure => have := HK1.out; have := HK2.out; have := HJ16.out; have := HK4.out; omega
 case rel => exact ⟨(t234), (wrap64 (x13_4 + 1)), (by first | rfl | (simp; done) | (simp [*]; done)), (by first | rfl | (simp; done) | (simp [*]; done)), H', ⟨by have := HK1.out; have := HK2.out; have := HJ16.out; have := HK4.out; omega⟩, ⟨by (with_reducible repeat (first | apply Kd.S_alloc | apply Kd.S_drewN | apply Kd.S_drew)); exact HO_5.out⟩, ⟨by (with_reducible repeat (first | apply Kd.S_alloc | apply Kd.S_drewN | apply Kd.S_drew)); exact HO_6.out⟩, ⟨by (with_reducible repeat (first | apply Kd.R_alloc | apply Kd.R_drewN | apply Kd.R_drew)); exact HO_7.out⟩, ⟨by (with_reducible repeat (first | apply Kd.R_alloc | apply Kd.R_drewN | apply Kd.R_drew)); exact HO_8.out⟩, ⟨by repeat (first | (with_reducible exact HR226_0.out) | (with_reducible refine Kd.C_alloc ?_ _) | (with_reducible refine Kd.C_drewN ?_ _) | (with_reducible refine Kd.C_drew ?_) | exact HR226_0.out)⟩, ⟨by repeat (first | (with_reducible exact HR227_0.out) | (with_reducible refine Kd.C_alloc ?_ _) | (with_reducible refine Kd.C_drewN ?_ _) | (with_reducible refine Kd.C_drew ?_) | exact HR227_0.out)⟩, ⟨by repeat (first | (with_reducible first | exact HB.out | apply below_alloc | apply pw_below_drewN | apply below_drew1) | exact HB.out)⟩⟩
 }
 {
 rw [if_neg c35] at H
 have c35b0 : (((rd_T35 t217 x13_4).f0) == (rd (rd_L1 t214 x9_1) x10_2)) = false := beq_eq_false_iff_ne.mpr c35
 have c35b1 : (((rd_T35 t217 x13_4).f0) != (rd (rd_L1 t214 x9_1) x10_2)) = true := bne_iff_ne.mpr c35
 have H' := Aside0.mk H
 clear H
 obtain ⟨Ao38, co38, eo38⟩ := Kd.S_slice HO_6.out
 subst eo38
 have p232 : 0 ≤ (x13_4 : Int) := of_decide_eq_true (by first | (with_reducible assumption) | assumption)
 have q232 : x13_4 < (t217.length : Int) := of_decide_eq_true (by first | (with_reducible assumption) | assumption)
 obtain ⟨ad232, A232_1, c232_1, e232, hx232_0, hx232_1, hl232_1, hi232_1⟩ := at_T35 (Kd.S_reads' HO_6.out).2.2 x13_4 p232 q232
 cases e232
 obtain ⟨ce232, hce232, hMe232, hcc232⟩ := Kd.S_get HO_6.out z35 x13_4 p232 (by first | exact q232 | exact of_decide_eq_true (by first | (with_reducible assumption) | assumption) | (have e_ := (Kd.S_reads' HO_6.out).1; omega))
 obtain ⟨ve232_1, rfl, ge232_1⟩ := k35_openM hMe232
 have hv232_1 := hcc232 1 _ rfl
 rw [add_field _ _ 1 (by omega)] at hv232_1
 replace hv232_1 := Option.some.inj (hv232_1.symm.trans hx232_1)
 rw [hv232_1] at ge232_1
 have HL232_1 := Aside0.mk (show Kd.R (Kd.int .i64) 3 _ _ _ _ ((rd_T35 t217 x13_4).f1) from ge232_1)
 clear hv232_1 ge232_1
 clear hcc232 hce232
 have HR232_1 := Aside0.mk hi232_1
 have HC232_1 := Aside0.mk hl232_1
 clear hi232_1 hl232_1
 replace p232 := eq_true p232
 replace q232 := eq_true q232
 go_wp2
 repeat (go_quiet (fail); try go_wp2)
 go_roundg k4
 case measure => have := HK1.out; have := HK2.out; have := HJ16.out; have := HK4.out; omega
 case rel => exact ⟨(false), (wrap64 (x13_4 + 1)), (by first | rfl | (simp; done) | (simp [*]; done)), (by first | rfl | (simp; done) | (simp [*]; done)), H', ⟨by have := HK1.out; have := HK2.out; have := HJ16.out; have := HK4.out; omega⟩, ⟨by (with_reducible repeat (first | apply Kd.S_alloc | apply Kd.S_drewN | apply Kd.S_drew)); exact HO_5.out⟩, ⟨by (with_reducible repeat (first | apply Kd.S_alloc | apply Kd.S_drewN | apply Kd.S_drew)); exact HO_6.out⟩, ⟨by (with_reducible repeat (first | apply Kd.R_alloc | apply Kd.R_drewN | apply Kd.R_drew)); exact HO_7.out⟩, ⟨by (with_reducible repeat (first | apply Kd.R_alloc | apply Kd.R_drewN | apply Kd.R_drew)); exact HO_8.out⟩, ⟨by repeat (first | (with_reducible exact HR226_0.out) | (with_reducible refine Kd.C_alloc ?_ _) | (with_reducible refine Kd.C_drewN ?_ _) | (with_reducible refine Kd.C_drew ?_) | exact HR226_0.out)⟩, ⟨by repeat (first | (with_reducible exact HR227_0.out) | (with_reducible refine Kd.C_alloc ?_ _) | (with_reducible refine Kd.C_drewN ?_ _) | (with_reducible refine Kd.C_drew ?_) | exact HR227_0.out)⟩, ⟨by repeat (first | (with_reducible first | exact HB.out | apply below_alloc | apply pw_below_drewN | apply below_drew1) | exact HB.out)⟩⟩
 }
 }
 {
 rw [if_neg c34] at H
 exact absurd H (by simp)
 }
 }
 }
 {
 rw [if_neg c31] at H
 have c31b0 : decide (x13_4 < (t217.length : Int)) = false := decide_eq_false c31
 clear c31
 by_cases c39 : x12_4 = true
 {
 subst c39
 have H1 : (interlocklaw12_LoopBacks.l1 k4 t214 t217 t220 t223 x9_1 (wrap64 (x10_2 + 1))) = some r := by rw [if_pos rfl] at H; exact H
 clear H
 have H := H1
 clear H1
 have H' := Aside0.mk H
 clear H
 obtain ⟨Ao40, co40, eo40⟩ := Kd.S_slice HO_6.out
 subst eo40
 go_wp2
 repeat (go_quiet (fail); try go_wp2)
 go_roundg k4
 case measure => have := HK1.out; have := HK2.out; have := HJ16.out; have := HK4.out; omega
 case rel => exact ⟨(wrap64 (x10_2 + 1)), (by first | rfl | (simp; done) | (simp [*]; done)), H', ⟨by have := HK1.out; have := HK2.out; have := HJ16.out; have := HK4.out; omega⟩, ⟨by (with_reducible repeat (first | apply Kd.S_alloc | apply Kd.S_drewN | apply Kd.S_drew)); exact HO_5.out⟩, ⟨by (with_reducible repeat (first | apply Kd.S_alloc | apply Kd.S_drewN | apply Kd.S_drew)); exact HO_6.out⟩, ⟨by (with_reducible repeat (first | apply Kd.R_alloc | apply Kd.R_drewN | apply Kd.R_drew)); exact HO_7.out⟩, ⟨by (with_reducible repeat (first | apply Kd.R_alloc | apply Kd.R_drewN | apply Kd.R_drew)); exact HO_8.out⟩, ⟨by repeat (first | (with_reducible first | exact HB.out | apply below_alloc | apply pw_below_drewN | apply below_drew1) | exact HB.out)⟩⟩
 }
 {
 replace c39 := Bool.eq_false_iff.mpr c39
 subst c39
 have H1 : (none) = some r := by rw [if_neg (show ¬ (false = true) by decide)] at H; exact H
 clear H
 have H := H1
 clear H1
 exact absurd H (by simp)
 }
 }
 )
 )
 }
 )
 )
 }
 {
 rw [if_neg c16] at H
 exact absurd H (by simp)
 }
 }
 {
 rw [if_neg c15] at H
 have c15b0 : decide (x10_2 < ((rd_L1 t214 x9_1).length : Int)) = false := decide_eq_false c15
 clear c15
 have H' := Aside0.mk H
 clear H
 have p226 : 0 ≤ (x9_1 : Int) := of_decide_eq_true (by first | (with_reducible assumption) | assumption)
 have q226 : x9_1 < (t214.length : Int) := of_decide_eq_true (by first | (with_reducible assumption) | assumption)
 obtain ⟨ad226, A226_0, c226_0, e226, hx226_0, hl226_0, hi226_0⟩ := at_L1 (Kd.S_reads' HO_5.out).2.2 x9_1 p226 q226
 cases e226
 obtain ⟨ce226, hce226, hMe226, hcc226⟩ := Kd.S_get HO_5.out [] x9_1 p226 (by first | exact q226 | exact of_decide_eq_true (by first | (with_reducible assumption) | assumption) | (have e_ := (Kd.S_reads' HO_5.out).1; omega))
 obtain ⟨ve226_0, rfl, ge226_0⟩ := hMe226
 have hv226_0 := hcc226 0 _ rfl
 rw [Nat.add_zero, show ((Kd.slice 3 (Kd.int .i64))).sz = 1 from rfl, Nat.mul_one] at hv226_0
 replace hv226_0 := Option.some.inj (hv226_0.symm.trans hx226_0)
 rw [hv226_0] at ge226_0
 have HL226_0 := Aside0.mk (show Kd.R (Kd.int .i64) 3 _ _ _ _ (rd_L1 t214 x9_1) from ge226_0)
 clear hv226_0 ge226_0
 clear hcc226 hce226
 have HR226_0 := Aside0.mk hi226_0
 have HC226_0 := Aside0.mk hl226_0
 clear hi226_0 hl226_0
 replace p226 := eq_true p226
 replace q226 := eq_true q226
 go_wp2
 repeat (go_quiet (fail); try go_wp2)
 go_roundg k2
 case measure => have := HK1.out; have := HK2.out; omega
 case rel => exact ⟨(wrap64 (x9_1 + 1)), (by first | rfl | (simp; done) | (simp [*]; done)), H', ⟨by have := HK1.out; have := HK2.out; omega⟩, ⟨by (with_reducible repeat (first | apply Kd.S_alloc | apply Kd.S_drewN | apply Kd.S_drew)); exact HO_5.out⟩, ⟨by (with_reducible repeat (first | apply Kd.S_alloc | apply Kd.S_drewN | apply Kd.S_drew)); exact HO_6.out⟩, ⟨by (with_reducible repeat (first | apply Kd.R_alloc | apply Kd.R_drewN | apply Kd.R_drew)); exact HO_7.out⟩, ⟨by (with_reducible repeat (first | apply Kd.R_alloc | apply Kd.R_drewN | apply Kd.R_drew)); exact HO_8.out⟩, ⟨by repeat (first | (with_reducible first | exact HB.out | apply below_alloc | apply pw_below_drewN | apply below_drew1) | exact HB.out)⟩⟩
 }
 }
 {
 rw [if_neg c14] at H
 exact absurd H (by simp)
 }
 }
 {
 rw [if_neg c13] at H
 exact absurd H (by simp)
 }
 )
 )
 }
 {
 rw [if_neg c12] at H
 have c12b0 : decide (x9_1 < (t214.length : Int)) = false := decide_eq_false c12
 clear c12
 have H' := Aside0.mk H
 clear H
 go_wp2
 repeat (go_quiet (fail); try go_wp2)
 go_loopg [14] k1 (fun kq v14 w' => ∃ (x14_2 : Int), v14 = .int .i64 x14_2 ∧ Aside0 (interlocklaw12_LoopBacks.l3 kq t214 t217 x14_2 = some r) ∧ Aside0 (kq ≤ k1) ∧ Aside0 (Kd.S (Kd.slice 3 (Kd.int .i64)) 31 w' w.heap.size (fun _ => True) (.slice Ao8 t214.length co8) t214) ∧ Aside0 (Kd.S k35 35 w' w.heap.size (fun _ => True) v218 t217) ∧ Aside0 (Below w.heap.size w w'))
 case atStart => exact ⟨(0), (by first | rfl | (simp; done) | (simp [*]; done)), H', ⟨Nat.le_refl _⟩, ⟨by (with_reducible repeat (first | apply Kd.S_alloc | apply Kd.S_drewN | apply Kd.S_drew)); exact HO_5.out⟩, ⟨by (with_reducible repeat (first | apply Kd.S_alloc | apply Kd.S_drewN | apply Kd.S_drew)); exact HO_6.out⟩, ⟨by repeat (first | (with_reducible first | exact HB.out | apply below_alloc | apply pw_below_drewN | apply below_drew1) | exact HB.out)⟩⟩
 case round => (
 clear H'
 try clear c1
 try clear q1
 try clear c2
 try clear p2
 try clear q2
 try clear hx2
 try clear c3
 try clear p6
 try clear c12
 try clear c12b0
 try clear c13
 try clear c13b0
 try clear c14
 try clear c14b0
 try clear c15
 try clear c15b0
 try clear c16
 try clear c16b0
 try clear c18
 try clear c18b0
 try clear q19
 try clear c20
 try clear c21
 try clear c21b0
 try clear c22
 try clear p22
 try clear q22
 try clear hx22
 try clear c23
 try clear c23b0
 try clear p23
 try clear q23
 try clear hx23
 try clear c25
 try clear c25b0
 try clear c30
 try clear c31
 try clear c31b0
 try clear c32
 try clear c34
 try clear c34b0
 try clear c35
 try clear c35b0
 try clear c35b1
 try clear c39
 try clear hx226_0
 try clear hx227_0
 try clear hx228_0
 try clear hx229_0
 try clear hx230_0
 try clear hx232_0
 try clear hx232_1
 try clear hx233_0
 try clear hx233_1
 try clear p2
 try clear p22
 try clear p226
 try clear p227
 try clear p228
 try clear p229
 try clear p23
 try clear p230
 try clear p232
 try clear p233
 try clear p6
 try clear q1
 try clear q19
 try clear q2
 try clear q22
 try clear q226
 try clear q227
 try clear q228
 try clear q229
 try clear q23
 try clear q230
 try clear q232
 try clear q233
 obtain ⟨x14_2, rfl, HA, HK2, HO_5, HO_6, HB⟩ := hrel
 cases gk with
 | zero => exact absurd HA.out (by simp [interlocklaw12_LoopBacks.l3])
 | succ k2 => (
 have H := HA.out
 clear HA
 simp only [interlocklaw12_LoopBacks.l3] at H
 by_cases c41 : x14_2 < (t217.length : Int)
 {
 rw [if_pos c41] at H
 have c41b0 : decide (x14_2 < (t217.length : Int)) = true := decide_eq_true c41
 clear c41
 have H' := Aside0.mk H
 clear H
 obtain ⟨Ao42, co42, eo42⟩ := Kd.S_slice HO_6.out
 subst eo42
 go_wp2
 repeat (go_quiet (fail); try go_wp2)
 go_loopg [15, 16] k2 (fun kq v15 v16 w' => ∃ (x15_3 : Bool) (x16_3 : Int), v15 = .bool x15_3 ∧ v16 = .int .i64 x16_3 ∧ Aside0 (interlocklaw12_LoopBacks.l4 kq t214 t217 x14_2 x15_3 x16_3 = some r) ∧ Aside0 (kq ≤ k2) ∧ Aside0 (Kd.S (Kd.slice 3 (Kd.int .i64)) 31 w' w.heap.size (fun _ => True) (.slice Ao8 t214.length co8) t214) ∧ Aside0 (Kd.S k35 35 w' w.heap.size (fun _ => True) (.slice Ao42 t217.length co42) t217) ∧ Aside0 (Below w.heap.size w w'))
 case atStart => exact ⟨(false), (0), (by first | rfl | (simp; done) | (simp [*]; done)), (by first | rfl | (simp; done) | (simp [*]; done)), H', ⟨Nat.le_refl _⟩, ⟨by (with_reducible repeat (first | apply Kd.S_alloc | apply Kd.S_drewN | apply Kd.S_drew)); exact HO_5.out⟩, ⟨by (with_reducible repeat (first | apply Kd.S_alloc | apply Kd.S_drewN | apply Kd.S_drew)); exact HO_6.out⟩, ⟨by repeat (first | (with_reducible first | exact HB.out | apply below_alloc | apply pw_below_drewN | apply below_drew1) | exact HB.out)⟩⟩
 case round => (
 clear H'
 try clear c1
 try clear q1
 try clear c2
 try clear p2
 try clear q2
 try clear hx2
 try clear c3
 try clear c4
 try clear p6
 try clear c12
 try clear c12b0
 try clear c13
 try clear c13b0
 try clear c14
 try clear c14b0
 try clear c15
 try clear c15b0
 try clear c16
 try clear c16b0
 try clear c18
 try clear c18b0
 try clear q19
 try clear c20
 try clear c21
 try clear c21b0
 try clear c22
 try clear p22
 try clear q22
 try clear hx22
 try clear c23
 try clear c23b0
 try clear p23
 try clear q23
 try clear hx23
 try clear c25
 try clear c25b0
 try clear c30
 try clear c31
 try clear c31b0
 try clear c32
 try clear c34
 try clear c34b0
 try clear c35
 try clear c35b0
 try clear c35b1
 try clear c39
 try clear c41
 try clear c41b0
 try clear hx226_0
 try clear hx227_0
 try clear hx228_0
 try clear hx229_0
 try clear hx230_0
 try clear hx232_0
 try clear hx232_1
 try clear hx233_0
 try clear hx233_1
 try clear p2
 try clear p22
 try clear p226
 try clear p227
 try clear p228
 try clear p229
 try clear p23
 try clear p230
 try clear p232
 try clear p233
 try clear p6
 try clear q1
 try clear q19
 try clear q2
 try clear q22
 try clear q226
 try clear q227
 try clear q228
 try clear q229
 try clear q23
 try clear q230
 try clear q232
 try clear q233
 obtain ⟨x15_3, x16_3, rfl, rfl, HA, HK3, HO_5, HO_6, HB⟩ := hrel
 cases gk with
 | zero => exact absurd HA.out (by simp [interlocklaw12_LoopBacks.l4])
 | succ k3 => (
 have H := HA.out
 clear HA
 simp only [interlocklaw12_LoopBacks.l4] at H
 by_cases c43 : 0 ≤ x14_2
 {
 rw [if_pos c43] at H
 have c43b0 : decide (0 ≤ x14_2) = true := decide_eq_true c43
 clear c43
 by_cases c44 : x14_2 < (t217.length : Int)
 {
 rw [if_pos c44] at H
 have c44b0 : decide (x14_2 < (t217.length : Int)) = true := decide_eq_true c44
 clear c44
 by_cases c45 : x16_3 < (((rd_T35 t217 x14_2).f1).length : Int)
 {
 rw [if_pos c45] at H
 have c45b0 : decide (x16_3 < (((rd_T35 t217 x14_2).f1).length : Int)) = true := decide_eq_true c45
 clear c45
 by_cases c46 : 0 ≤ x16_3
 {
 rw [if_pos c46] at H
 have c46b0 : decide (0 ≤ x16_3) = true := decide_eq_true c46
 clear c46
 by_cases c47 : x15_3 = true
 {
 subst c47
 have H1 : (interlocklaw12_LoopBacks.l4 k3 t214 t217 x14_2 true (wrap64 (x16_3 + 1))) = some r := by rw [if_pos rfl] at H; exact H
 clear H
 have H := H1
 clear H1
 have H' := Aside0.mk H
 clear H
 have p236 : 0 ≤ (x14_2 : Int) := of_decide_eq_true (by first | (with_reducible assumption) | assumption)
 have q236 : x14_2 < (t217.length : Int) := of_decide_eq_true (by first | (with_reducible assumption) | assumption)
 obtain ⟨ad236, A236_1, c236_1, e236, hx236_0, hx236_1, hl236_1, hi236_1⟩ := at_T35 (Kd.S_reads' HO_6.out).2.2 x14_2 p236 q236
 cases e236
 obtain ⟨ce236, hce236, hMe236, hcc236⟩ := Kd.S_get HO_6.out z35 x14_2 p236 (by first | exact q236 | exact of_decide_eq_true (by first | (with_reducible assumption) | assumption) | (have e_ := (Kd.S_reads' HO_6.out).1; omega))
 obtain ⟨ve236_1, rfl, ge236_1⟩ := k35_openM hMe236
 have hv236_1 := hcc236 1 _ rfl
 rw [add_field _ _ 1 (by omega)] at hv236_1
 replace hv236_1 := Option.some.inj (hv236_1.symm.trans hx236_1)
 rw [hv236_1] at ge236_1
 have HL236_1 := Aside0.mk (show Kd.R (Kd.int .i64) 3 _ _ _ _ ((rd_T35 t217 x14_2).f1) from ge236_1)
 clear hv236_1 ge236_1
 clear hcc236 hce236
 have HR236_1 := Aside0.mk hi236_1
 have HC236_1 := Aside0.mk hl236_1
 clear hi236_1 hl236_1
 replace p236 := eq_true p236
 replace q236 := eq_true q236
 have p237 : 0 ≤ (x14_2 : Int) := of_decide_eq_true (by first | (with_reducible assumption) | assumption)
 have q237 : x14_2 < (t217.length : Int) := of_decide_eq_true (by first | (with_reducible assumption) | assumption)
 obtain ⟨ad237, A237_1, c237_1, e237, hx237_0, hx237_1, hl237_1, hi237_1⟩ := at_T35 (Kd.S_reads' HO_6.out).2.2 x14_2 p237 q237
 obtain rfl : ad236 = ad237 := (by injection e237)
 obtain ⟨ce237, hce237, hMe237, hcc237⟩ := Kd.S_get HO_6.out z35 x14_2 p237 (by first | exact q237 | exact of_decide_eq_true (by first | (with_reducible assumption) | assumption) | (have e_ := (Kd.S_reads' HO_6.out).1; omega))
 obtain ⟨ve237_1, rfl, ge237_1⟩ := k35_openM hMe237
 have hv237_1 := hcc237 1 _ rfl
 rw [add_field _ _ 1 (by omega)] at hv237_1
 replace hv237_1 := Option.some.inj (hv237_1.symm.trans hx237_1)
 rw [hv237_1] at ge237_1
 have HL237_1 := Aside0.mk (show Kd.R (Kd.int .i64) 3 _ _ _ _ ((rd_T35 t217 x14_2).f1) from ge237_1)
 clear hv237_1 ge237_1
 clear hcc237 hce237
 have HR237_1 := Aside0.mk hi237_1
 have HC237_1 := Aside0.mk hl237_1
 clear hi237_1 hl237_1
 replace p237 := eq_true p237
 replace q237 := eq_true q237
 have ea_ := Option.some.inj (hx236_1.symm.trans hx237_1)
 injection ea_ with ea_ en_ ec_
 subst ea_
 subst ec_
 clear en_
 have p238 : 0 ≤ (x16_3 : Int) := of_decide_eq_true (by first | (with_reducible assumption) | assumption)
 have q238 : x16_3 < (((rd_T35 t217 x14_2).f1).length : Int) := of_decide_eq_true (by first | (with_reducible assumption) | assumption)
 obtain ⟨ad238, e238, hx238_0⟩ := Kd.at_int (by repeat (first | (with_reducible exact HR237_1.out) | (with_reducible refine Kd.C_alloc ?_ _) | (with_reducible refine Kd.C_drewN ?_ _) | (with_reducible refine Kd.C_drew ?_) | exact HR237_1.out)) x16_3 p238 q238
 cases e238
 replace p238 := eq_true p238
 replace q238 := eq_true q238
 go_wp2
 repeat (go_quiet (fail); try go_wp2)
 go_roundg k3
 case measure => have := HK1.out; have := HK2.out; have := HK3.out; omega
 case rel => exact ⟨(true), (wrap64 (x16_3 + 1)), (by first | rfl | (simp; done) | (simp [*]; done)), (by first | rfl | (simp; done) | (simp [*]; done)), H', ⟨by have := HK1.out; have := HK2.out; have := HK3.out; omega⟩, ⟨by (with_reducible repeat (first | apply Kd.S_alloc | apply Kd.S_drewN | apply Kd.S_drew)); exact HO_5.out⟩, ⟨by (with_reducible repeat (first | apply Kd.S_alloc | apply Kd.S_drewN | apply Kd.S_drew)); exact HO_6.out⟩, ⟨by repeat (first | (with_reducible first | exact HB.out | apply below_alloc | apply pw_below_drewN | apply below_drew1) | exact HB.out)⟩⟩
 }
 {
 replace c47 := Bool.eq_false_iff.mpr c47
 subst c47
 have H1 : (if (rd ((rd_T35 t217 x14_2).f1) x16_3) ≥ 0 then (if (rd ((rd_T35 t217 x14_2).f1) x16_3) < (t214.length : Int) then (if 0 ≤ (rd ((rd_T35 t217 x14_2).f1) x16_3) then ((interlocklaw12_has.f k3 (rd_L1 t214 (rd ((rd_T35 t217 x14_2).f1) x16_3)) ((rd_T35 t217 x14_2).f0)).bind fun t241 => (interlocklaw12_LoopBacks.l4 k3 t214 t217 x14_2 t241 (wrap64 (x16_3 + 1)))) else (none)) else (interlocklaw12_LoopBacks.l4 k3 t214 t217 x14_2 false (wrap64 (x16_3 + 1)))) else (interlocklaw12_LoopBacks.l4 k3 t214 t217 x14_2 false (wrap64 (x16_3 + 1)))) = some r := by rw [if_neg (show ¬ (false = true) by decide)] at H; exact H
 clear H
 have H := H1
 clear H1
 by_cases c48 : (rd ((rd_T35 t217 x14_2).f1) x16_3) ≥ 0
 {
 rw [if_pos c48] at H
 have c48b0 : decide (0 ≤ (rd ((rd_T35 t217 x14_2).f1) x16_3)) = true := decide_eq_true c48
 clear c48
 by_cases c49 : (rd ((rd_T35 t217 x14_2).f1) x16_3) < (t214.length : Int)
 {
 rw [if_pos c49] at H
 have c49b0 : decide ((rd ((rd_T35 t217 x14_2).f1) x16_3) < (t214.length : Int)) = true := decide_eq_true c49
 clear c49
 by_cases c50 : 0 ≤ (rd ((rd_T35 t217 x14_2).f1) x16_3)
 {
 rw [if_pos c50] at H
 have c50b0 : decide (0 ≤ (rd ((rd_T35 t217 x14_2).f1) x16_3)) = true := decide_eq_true c50
 clear c50
 replace H := Option.bind_eq_some_iff.mp H
 obtain ⟨t241, A510, H⟩ := H
 replace H : (interlocklaw12_LoopBacks.l4 k3 t214 t217 x14_2 t241 (wrap64 (x16_3 + 1))) = some r := H
 have A51 := Aside0.mk A510
 clear A510
 have H' := Aside0.mk H
 clear H
 have p236 : 0 ≤ (x14_2 : Int) := of_decide_eq_true (by first | (with_reducible assumption) | assumption)
 have q236 : x14_2 < (t217.length : Int) := of_decide_eq_true (by first | (with_reducible assumption) | assumption)
 obtain ⟨ad236, A236_1, c236_1, e236, hx236_0, hx236_1, hl236_1, hi236_1⟩ := at_T35 (Kd.S_reads' HO_6.out).2.2 x14_2 p236 q236
 cases e236
 obtain ⟨ce236, hce236, hMe236, hcc236⟩ := Kd.S_get HO_6.out z35 x14_2 p236 (by first | exact q236 | exact of_decide_eq_true (by first | (with_reducible assumption) | assumption) | (have e_ := (Kd.S_reads' HO_6.out).1; omega))
 obtain ⟨ve236_1, rfl, ge236_1⟩ := k35_openM hMe236
 have hv236_1 := hcc236 1 _ rfl
 rw [add_field _ _ 1 (by omega)] at hv236_1
 replace hv236_1 := Option.some.inj (hv236_1.symm.trans hx236_1)
 rw [hv236_1] at ge236_1
 have HL236_1 := Aside0.mk (show Kd.R (Kd.int .i64) 3 _ _ _ _ ((rd_T35 t217 x14_2).f1) from ge236_1)
 clear hv236_1 ge236_1
 clear hcc236 hce236
 have HR236_1 := Aside0.mk hi236_1
 have HC236_1 := Aside0.mk hl236_1
 clear hi236_1 hl236_1
 replace p236 := eq_true p236
 replace q236 := eq_true q236
 have p237 : 0 ≤ (x14_2 : Int) := of_decide_eq_true (by first | (with_reducible assumption) | assumption)
 have q237 : x14_2 < (t217.length : Int) := of_decide_eq_true (by first | (with_reducible assumption) | assumption)
 obtain ⟨ad237, A237_1, c237_1, e237, hx237_0, hx237_1, hl237_1, hi237_1⟩ := at_T35 (Kd.S_reads' HO_6.out).2.2 x14_2 p237 q237
 obtain rfl : ad236 = ad237 := (by injection e237)
 obtain ⟨ce237, hce237, hMe237, hcc237⟩ := Kd.S_get HO_6.out z35 x14_2 p237 (by first | exact q237 | exact of_decide_eq_true (by first | (with_reducible assumption) | assumption) | (have e_ := (Kd.S_reads' HO_6.out).1; omega))
 obtain ⟨ve237_1, rfl, ge237_1⟩ := k35_openM hMe237
 have hv237_1 := hcc237 1 _ rfl
 rw [add_field _ _ 1 (by omega)] at hv237_1
 replace hv237_1 := Option.some.inj (hv237_1.symm.trans hx237_1)
 rw [hv237_1] at ge237_1
 have HL237_1 := Aside0.mk (show Kd.R (Kd.int .i64) 3 _ _ _ _ ((rd_T35 t217 x14_2).f1) from ge237_1)
 clear hv237_1 ge237_1
 clear hcc237 hce237
 have HR237_1 := Aside0.mk hi237_1
 have HC237_1 := Aside0.mk hl237_1
 clear hi237_1 hl237_1
 replace p237 := eq_true p237
 replace q237 := eq_true q237
 have ea_ := Option.some.inj (hx236_1.symm.trans hx237_1)
 injection ea_ with ea_ en_ ec_
 subst ea_
 subst ec_
 clear en_
 have p238 : 0 ≤ (x16_3 : Int) := of_decide_eq_true (by first | (with_reducible assumption) | assumption)
 have q238 : x16_3 < (((rd_T35 t217 x14_2).f1).length : Int) := of_decide_eq_true (by first | (with_reducible assumption) | assumption)
 obtain ⟨ad238, e238, hx238_0⟩ := Kd.at_int (by repeat (first | (with_reducible exact HR237_1.out) | (with_reducible refine Kd.C_alloc ?_ _) | (with_reducible refine Kd.C_drewN ?_ _) | (with_reducible refine Kd.C_drew ?_) | exact HR237_1.out)) x16_3 p238 q238
 cases e238
 replace p238 := eq_true p238
 replace q238 := eq_true q238
 have p239 : 0 ≤ ((rd ((rd_T35 t217 x14_2).f1) x16_3) : Int) := of_decide_eq_true (by first | (with_reducible assumption) | assumption)
 have q239 : (rd ((rd_T35 t217 x14_2).f1) x16_3) < (t214.length : Int) := of_decide_eq_true (by first | (with_reducible assumption) | assumption)
 obtain ⟨ad239, A239_0, c239_0, e239, hx239_0, hl239_0, hi239_0⟩ := at_L1 (Kd.S_reads' HO_5.out).2.2 (rd ((rd_T35 t217 x14_2).f1) x16_3) p239 q239
 cases e239
 obtain ⟨ce239, hce239, hMe239, hcc239⟩ := Kd.S_get HO_5.out [] (rd ((rd_T35 t217 x14_2).f1) x16_3) p239 (by first | exact q239 | exact of_decide_eq_true (by first | (with_reducible assumption) | assumption) | (have e_ := (Kd.S_reads' HO_5.out).1; omega))
 obtain ⟨ve239_0, rfl, ge239_0⟩ := hMe239
 have hv239_0 := hcc239 0 _ rfl
 rw [Nat.add_zero, show ((Kd.slice 3 (Kd.int .i64))).sz = 1 from rfl, Nat.mul_one] at hv239_0
 replace hv239_0 := Option.some.inj (hv239_0.symm.trans hx239_0)
 rw [hv239_0] at ge239_0
 have HL239_0 := Aside0.mk (show Kd.R (Kd.int .i64) 3 _ _ _ _ (rd_L1 t214 (rd ((rd_T35 t217 x14_2).f1) x16_3)) from ge239_0)
 clear hv239_0 ge239_0
 clear hcc239 hce239
 have HR239_0 := Aside0.mk hi239_0
 have HC239_0 := Aside0.mk hl239_0
 clear hi239_0 hl239_0
 replace p239 := eq_true p239
 replace q239 := eq_true q239
 have p240 : 0 ≤ (x14_2 : Int) := of_decide_eq_true (by first | (with_reducible assumption) | assumption)
 have q240 : x14_2 < (t217.length : Int) := of_decide_eq_true (by first | (with_reducible assumption) | assumption)
 obtain ⟨ad240, A240_1, c240_1, e240, hx240_0, hx240_1, hl240_1, hi240_1⟩ := at_T35 (Kd.S_reads' HO_6.out).2.2 x14_2 p240 q240
 obtain rfl : ad236 = ad240 := (by injection e240)
 obtain ⟨ce240, hce240, hMe240, hcc240⟩ := Kd.S_get HO_6.out z35 x14_2 p240 (by first | exact q240 | exact of_decide_eq_true (by first | (with_reducible assumption) | assumption) | (have e_ := (Kd.S_reads' HO_6.out).1; omega))
 obtain ⟨ve240_1, rfl, ge240_1⟩ := k35_openM hMe240
 have hv240_1 := hcc240 1 _ rfl
 rw [add_field _ _ 1 (by omega)] at hv240_1
 replace hv240_1 := Option.some.inj (hv240_1.symm.trans hx240_1)
 rw [hv240_1] at ge240_1
 have HL240_1 := Aside0.mk (show Kd.R (Kd.int .i64) 3 _ _ _ _ ((rd_T35 t217 x14_2).f1) from ge240_1)
 clear hv240_1 ge240_1
 clear hcc240 hce240
 have HR240_1 := Aside0.mk hi240_1
 have HC240_1 := Aside0.mk hl240_1
 clear hi240_1 hl240_1
 replace p240 := eq_true p240
 replace q240 := eq_true q240
 have ea_ := Option.some.inj (hx236_1.symm.trans hx240_1)
 injection ea_ with ea_ en_ ec_
 subst ea_
 subst ec_
 clear en_
 go_wp2_with (first | (go_at_call 13; (with_reducible refine (interlocklaw12_has.calls k3 _ _ (rd_L1 t214 (rd ((rd_T35 t217 x14_2).f1) x16_3)) ((rd_T35 t217 x14_2).f0) t241 _ ?side1 ?side2 A51.out).mono ?_); (case side1 => repeat (first | exact (by repeat (first | (with_reducible exact HR239_0.out) | (with_reducible refine Kd.C_alloc ?_ _) | (with_reducible refine Kd.C_drewN ?_ _) | (with_reducible refine Kd.C_drew ?_) | exact HR239_0.out)) | (with_reducible refine Kd.C_alloc ?_ _) | (with_reducible refine Kd.C_drewN ?_ _) | (with_reducible refine Kd.C_drew ?_))); (case side2 => exact HC239_0.out); rintro e w' ⟨rfl, ⟨nd, rfl⟩⟩; (try first | exact ⟨rfl, _, World.drewN_drewN _ _ _⟩ | exact ⟨rfl, _, Eq.trans (World.drewN_drewN _ _ _) (congrArg (World.drewN _) (Nat.add_assoc _ _ _))⟩)))
 repeat (go_quiet (first | (go_at_call 13; (with_reducible refine (interlocklaw12_has.calls k3 _ _ (rd_L1 t214 (rd ((rd_T35 t217 x14_2).f1) x16_3)) ((rd_T35 t217 x14_2).f0) t241 _ ?side1 ?side2 A51.out).mono ?_); (case side1 => repeat (first | exact (by repeat (first | (with_reducible exact HR239_0.out) | (with_reducible refine Kd.C_alloc ?_ _) | (with_reducible refine Kd.C_drewN ?_ _) | (with_reducible refine Kd.C_drew ?_) | exact HR239_0.out)) | (with_reducible refine Kd.C_alloc ?_ _) | (with_reducible refine Kd.C_drewN ?_ _) | (with_reducible refine Kd.C_drew ?_))); (case side2 => exact HC239_0.out); rintro e w' ⟨rfl, ⟨nd, rfl⟩⟩; (try first | exact ⟨rfl, _, World.drewN_drewN _ _ _⟩ | exact ⟨rfl, _, Eq.trans (World.drewN_drewN _ _ _) (congrArg (World.drewN _) (Nat.add_assoc _ _ _))⟩))); try go_wp2_with (first | (go_at_call 13; (with_reducible refine (interlocklaw12_has.calls k3 _ _ (rd_L1 t214 (rd ((rd_T35 t217 x14_2).f1) x16_3)) ((rd_T35 t217 x14_2).f0) t241 _ ?side1 ?side2 A51.out).mono ?_); (case side1 => repeat (first | exact (by repeat (first | (with_reducible exact HR239_0.out) | (with_reducible refine Kd.C_alloc ?_ _) | (with_reducible refine Kd.C_drewN ?_ _) | (with_reducible refine Kd.C_drew ?_) | exact HR239_0.out)) | (with_reducible refine Kd.C_alloc ?_ _) | (with_reducible refine Kd.C_drewN ?_ _) | (with_reducible refine Kd.C_drew ?_))); (case side2 => exact HC239_0.out); rintro e w' ⟨rfl, ⟨nd, rfl⟩⟩; (try first | exact ⟨rfl, _, World.drewN_drewN _ _ _⟩ | exact ⟨rfl, _, Eq.trans (World.drewN_drewN _ _ _) (congrArg (World.drewN _) (Nat.add_assoc _ _ _))⟩))))
 go_roundg k3
 case measure => have := HK1.out; have := HK2.out; have := HK3.out; omega
 case rel => exact ⟨(t241), (wrap64 (x16_3 + 1)), (by first | rfl | (simp; done) | (simp [*]; done)), (by first | rfl | (simp; done) | (simp [*]; done)), H', ⟨by have := HK1.out; have := HK2.out; have := HK3.out; omega⟩, ⟨by (with_reducible repeat (first | apply Kd.S_alloc | apply Kd.S_drewN | apply Kd.S_drew)); exact HO_5.out⟩, ⟨by (with_reducible repeat (first | apply Kd.S_alloc | apply Kd.S_drewN | apply Kd.S_drew)); exact HO_6.out⟩, ⟨by repeat (first | (with_reducible first | exact HB.out | apply below_alloc | apply pw_below_drewN | apply below_drew1) | exact HB.out)⟩⟩
 }
 {
 rw [if_neg c50] at H
 exact absurd H (by simp)
 }
 }
 {
 rw [if_neg c49] at H
 have c49b0 : decide ((rd ((rd_T35 t217 x14_2).f1) x16_3) < (t214.length : Int)) = false := decide_eq_false c49
 clear c49
 have H' := Aside0.mk H
 clear H
 have p236 : 0 ≤ (x14_2 : Int) := of_decide_eq_true (by first | (with_reducible assumption) | assumption)
 have q236 : x14_2 < (t217.length : Int) := of_decide_eq_true (by first | (with_reducible assumption) | assumption)
 obtain ⟨ad236, A236_1, c236_1, e236, hx236_0, hx236_1, hl236_1, hi236_1⟩ := at_T35 (Kd.S_reads' HO_6.out).2.2 x14_2 p236 q236
 cases e236
 obtain ⟨ce236, hce236, hMe236, hcc236⟩ := Kd.S_get HO_6.out z35 x14_2 p236 (by first | exact q236 | exact of_decide_eq_true (by first | (with_reducible assumption) | assumption) | (have e_ := (Kd.S_reads' HO_6.out).1; omega))
 obtain ⟨ve236_1, rfl, ge236_1⟩ := k35_openM hMe236
 have hv236_1 := hcc236 1 _ rfl
 rw [add_field _ _ 1 (by omega)] at hv236_1
 replace hv236_1 := Option.some.inj (hv236_1.symm.trans hx236_1)
 rw [hv236_1] at ge236_1
 have HL236_1 := Aside0.mk (show Kd.R (Kd.int .i64) 3 _ _ _ _ ((rd_T35 t217 x14_2).f1) from ge236_1)
 clear hv236_1 ge236_1
 clear hcc236 hce236
 have HR236_1 := Aside0.mk hi236_1
 have HC236_1 := Aside0.mk hl236_1
 clear hi236_1 hl236_1
 replace p236 := eq_true p236
 replace q236 := eq_true q236
 have p237 : 0 ≤ (x14_2 : Int) := of_decide_eq_true (by first | (with_reducible assumption) | assumption)
 have q237 : x14_2 < (t217.length : Int) := of_decide_eq_true (by first | (with_reducible assumption) | assumption)
 obtain ⟨ad237, A237_1, c237_1, e237, hx237_0, hx237_1, hl237_1, hi237_1⟩ := at_T35 (Kd.S_reads' HO_6.out).2.2 x14_2 p237 q237
 obtain rfl : ad236 = ad237 := (by injection e237)
 obtain ⟨ce237, hce237, hMe237, hcc237⟩ := Kd.S_get HO_6.out z35 x14_2 p237 (by first | exact q237 | exact of_decide_eq_true (by first | (with_reducible assumption) | assumption) | (have e_ := (Kd.S_reads' HO_6.out).1; omega))
 obtain ⟨ve237_1, rfl, ge237_1⟩ := k35_openM hMe237
 have hv237_1 := hcc237 1 _ rfl
 rw [add_field _ _ 1 (by omega)] at hv237_1
 replace hv237_1 := Option.some.inj (hv237_1.symm.trans hx237_1)
 rw [hv237_1] at ge237_1
 have HL237_1 := Aside0.mk (show Kd.R (Kd.int .i64) 3 _ _ _ _ ((rd_T35 t217 x14_2).f1) from ge237_1)
 clear hv237_1 ge237_1
 clear hcc237 hce237
 have HR237_1 := Aside0.mk hi237_1
 have HC237_1 := Aside0.mk hl237_1
 clear hi237_1 hl237_1
 replace p237 := eq_true p237
 replace q237 := eq_true q237
 have ea_ := Option.some.inj (hx236_1.symm.trans hx237_1)
 injection ea_ with ea_ en_ ec_
 subst ea_
 subst ec_
 clear en_
 have p238 : 0 ≤ (x16_3 : Int) := of_decide_eq_true (by first | (with_reducible assumption) | assumption)
 have q238 : x16_3 < (((rd_T35 t217 x14_2).f1).length : Int) := of_decide_eq_true (by first | (with_reducible assumption) | assumption)
 obtain ⟨ad238, e238, hx238_0⟩ := Kd.at_int (by repeat (first | (with_reducible exact HR237_1.out) | (with_reducible refine Kd.C_alloc ?_ _) | (with_reducible refine Kd.C_drewN ?_ _) | (with_reducible refine Kd.C_drew ?_) | exact HR237_1.out)) x16_3 p238 q238
 cases e238
 replace p238 := eq_true p238
 replace q238 := eq_true q238
 go_wp2
 repeat (go_quiet (fail); try go_wp2)
 go_roundg k3
 case measure => have := HK1.out; have := HK2.out; have := HK3.out; omega
 case rel => exact ⟨(false), (wrap64 (x16_3 + 1)), (by first | rfl | (simp; done) | (simp [*]; done)), (by first | rfl | (simp; done) | (simp [*]; done)), H', ⟨by have := HK1.out; have := HK2.out; have := HK3.out; omega⟩, ⟨by (with_reducible repeat (first | apply Kd.S_alloc | apply Kd.S_drewN | apply Kd.S_drew)); exact HO_5.out⟩, ⟨by (with_reducible repeat (first | apply Kd.S_alloc | apply Kd.S_drewN | apply Kd.S_drew)); exact HO_6.out⟩, ⟨by repeat (first | (with_reducible first | exact HB.out | apply below_alloc | apply pw_below_drewN | apply below_drew1) | exact HB.out)⟩⟩
 }
 }
 {
 rw [if_neg c48] at H
 have c48b0 : decide (0 ≤ (rd ((rd_T35 t217 x14_2).f1) x16_3)) = false := decide_eq_false c48
 clear c48
 have H' := Aside0.mk H
 clear H
 have p236 : 0 ≤ (x14_2 : Int) := of_decide_eq_true (by first | (with_reducible assumption) | assumption)
 have q236 : x14_2 < (t217.length : Int) := of_decide_eq_true (by first | (with_reducible assumption) | assumption)
 obtain ⟨ad236, A236_1, c236_1, e236, hx236_0, hx236_1, hl236_1, hi236_1⟩ := at_T35 (Kd.S_reads' HO_6.out).2.2 x14_2 p236 q236
 cases e236
 obtain ⟨ce236, hce236, hMe236, hcc236⟩ := Kd.S_get HO_6.out z35 x14_2 p236 (by first | exact q236 | exact of_decide_eq_true (by first | (with_reducible assumption) | assumption) | (have e_ := (Kd.S_reads' HO_6.out).1; omega))
 obtain ⟨ve236_1, rfl, ge236_1⟩ := k35_openM hMe236
 have hv236_1 := hcc236 1 _ rfl
 rw [add_field _ _ 1 (by omega)] at hv236_1
 replace hv236_1 := Option.some.inj (hv236_1.symm.trans hx236_1)
 rw [hv236_1] at ge236_1
 have HL236_1 := Aside0.mk (show Kd.R (Kd.int .i64) 3 _ _ _ _ ((rd_T35 t217 x14_2).f1) from ge236_1)
 clear hv236_1 ge236_1
 clear hcc236 hce236
 have HR236_1 := Aside0.mk hi236_1
 have HC236_1 := Aside0.mk hl236_1
 clear hi236_1 hl236_1
 replace p236 := eq_true p236
 replace q236 := eq_true q236
 have p237 : 0 ≤ (x14_2 : Int) := of_decide_eq_true (by first | (with_reducible assumption) | assumption)
 have q237 : x14_2 < (t217.length : Int) := of_decide_eq_true (by first | (with_reducible assumption) | assumption)
 obtain ⟨ad237, A237_1, c237_1, e237, hx237_0, hx237_1, hl237_1, hi237_1⟩ := at_T35 (Kd.S_reads' HO_6.out).2.2 x14_2 p237 q237
 obtain rfl : ad236 = ad237 := (by injection e237)
 obtain ⟨ce237, hce237, hMe237, hcc237⟩ := Kd.S_get HO_6.out z35 x14_2 p237 (by first | exact q237 | exact of_decide_eq_true (by first | (with_reducible assumption) | assumption) | (have e_ := (Kd.S_reads' HO_6.out).1; omega))
 obtain ⟨ve237_1, rfl, ge237_1⟩ := k35_openM hMe237
 have hv237_1 := hcc237 1 _ rfl
 rw [add_field _ _ 1 (by omega)] at hv237_1
 replace hv237_1 := Option.some.inj (hv237_1.symm.trans hx237_1)
 rw [hv237_1] at ge237_1
 have HL237_1 := Aside0.mk (show Kd.R (Kd.int .i64) 3 _ _ _ _ ((rd_T35 t217 x14_2).f1) from ge237_1)
 clear hv237_1 ge237_1
 clear hcc237 hce237
 have HR237_1 := Aside0.mk hi237_1
 have HC237_1 := Aside0.mk hl237_1
 clear hi237_1 hl237_1
 replace p237 := eq_true p237
 replace q237 := eq_true q237
 have ea_ := Option.some.inj (hx236_1.symm.trans hx237_1)
 injection ea_ with ea_ en_ ec_
 subst ea_
 subst ec_
 clear en_
 have p238 : 0 ≤ (x16_3 : Int) := of_decide_eq_true (by first | (with_reducible assumption) | assumption)
 have q238 : x16_3 < (((rd_T35 t217 x14_2).f1).length : Int) := of_decide_eq_true (by first | (with_reducible assumption) | assumption)
 obtain ⟨ad238, e238, hx238_0⟩ := Kd.at_int (by repeat (first | (with_reducible exact HR237_1.out) | (with_reducible refine Kd.C_alloc ?_ _) | (with_reducible refine Kd.C_drewN ?_ _) | (with_reducible refine Kd.C_drew ?_) | exact HR237_1.out)) x16_3 p238 q238
 cases e238
 replace p238 := eq_true p238
 replace q238 := eq_true q238
 go_wp2
 repeat (go_quiet (fail); try go_wp2)
 go_roundg k3
 case measure => have := HK1.out; have := HK2.out; have := HK3.out; omega
 case rel => exact ⟨(false), (wrap64 (x16_3 + 1)), (by first | rfl | (simp; done) | (simp [*]; done)), (by first | rfl | (simp; done) | (simp [*]; done)), H', ⟨by have := HK1.out; have := HK2.out; have := HK3.out; omega⟩, ⟨by (with_reducible repeat (first | apply Kd.S_alloc | apply Kd.S_drewN | apply Kd.S_drew)); exact HO_5.out⟩, ⟨by (with_reducible repeat (first | apply Kd.S_alloc | apply Kd.S_drewN | apply Kd.S_drew)); exact HO_6.out⟩, ⟨by repeat (first | (with_reducible first | exact HB.out | apply below_alloc | apply pw_below_drewN | apply below_drew1) | exact HB.out)⟩⟩
 }
 }
 }
 {
 rw [if_neg c46] at H
 exact absurd H (by simp)
 }
 }
 {
 rw [if_neg c45] at H
 have c45b0 : decide (x16_3 < (((rd_T35 t217 x14_2).f1).length : Int)) = false := decide_eq_false c45
 clear c45
 by_cases c52 : x15_3 = true
 {
 subst c52
 have H1 : (interlocklaw12_LoopBacks.l3 k3 t214 t217 (wrap64 (x14_2 + 1))) = some r := by rw [if_pos rfl] at H; exact H
 clear H
 have H := H1
 clear H1
 have H' := Aside0.mk H
 clear H
 have p236 : 0 ≤ (x14_2 : Int) := of_decide_eq_true (by first | (with_reducible assumption) | assumption)
 have q236 : x14_2 < (t217.length : Int) := of_decide_eq_true (by first | (with_reducible assumption) | assumption)
 obtain ⟨ad236, A236_1, c236_1, e236, hx236_0, hx236_1, hl236_1, hi236_1⟩ := at_T35 (Kd.S_reads' HO_6.out).2.2 x14_2 p236 q236
 cases e236
 obtain ⟨ce236, hce236, hMe236, hcc236⟩ := Kd.S_get HO_6.out z35 x14_2 p236 (by first | exact q236 | exact of_decide_eq_true (by first | (with_reducible assumption) | assumption) | (have e_ := (Kd.S_reads' HO_6.out).1; omega))
 obtain ⟨ve236_1, rfl, ge236_1⟩ := k35_openM hMe236
 have hv236_1 := hcc236 1 _ rfl
 rw [add_field _ _ 1 (by omega)] at hv236_1
 replace hv236_1 := Option.some.inj (hv236_1.symm.trans hx236_1)
 rw [hv236_1] at ge236_1
 have HL236_1 := Aside0.mk (show Kd.R (Kd.int .i64) 3 _ _ _ _ ((rd_T35 t217 x14_2).f1) from ge236_1)
 clear hv236_1 ge236_1
 clear hcc236 hce236
 have HR236_1 := Aside0.mk hi236_1
 have HC236_1 := Aside0.mk hl236_1
 clear hi236_1 hl236_1
 replace p236 := eq_true p236
 replace q236 := eq_true q236
 go_wp2
 repeat (go_quiet (fail); try go_wp2)
 go_roundg k3
 case measure => have := HK1.out; have := HK2.out; have := HK3.out; omega
 case rel => exact ⟨(wrap64 (x14_2 + 1)), (by first | rfl | (simp; done) | (simp [*]; done)), H', ⟨by have := HK1.out; have := HK2.out; have := HK3.out; omega⟩, ⟨by (with_reducible repeat (first | apply Kd.S_alloc | apply Kd.S_drewN | apply Kd.S_drew)); exact HO_5.out⟩, ⟨by (with_reducible repeat (first | apply Kd.S_alloc | apply Kd.S_drewN | apply Kd.S_drew)); exact HO_6.out⟩, ⟨by repeat (first | (with_reducible first | exact HB.out | apply below_alloc | apply pw_below_drewN | apply below_drew1) | exact HB.out)⟩⟩
 }
 {
 replace c52 := Bool.eq_false_iff.mpr c52
 subst c52
 have H1 : (none) = some r := by rw [if_neg (show ¬ (false = true) by decide)] at H; exact H
 clear H
 have H := H1
 clear H1
 exact absurd H (by simp)
 }
 }
 }
 {
 rw [if_neg c44] at H
 exact absurd H (by simp)
 }
 }
 {
 rw [if_neg c43] at H
 exact absurd H (by simp)
 }
 )
 )
 }
 {
 rw [if_neg c41] at H
 have c41b0 : decide (x14_2 < (t217.length : Int)) = false := decide_eq_false c41
 clear c41
 replace H := Option.bind_eq_some_iff.mp H
 obtain ⟨t235, A530, H⟩ := H
 replace H : (some t235) = some r := H
 have A53 := Aside0.mk A530
 clear A530
 obtain rfl := Option.some.inj H
 obtain ⟨Ao54, co54, eo54⟩ := Kd.S_slice HO_6.out
 subst eo54
 go_wp2_with (first | (go_at_call 14; (with_reducible refine (interlocklaw12_known.calls k2  t235 _ ?side1 A53.out).mono ?_); (case side1 => exact It.TabOk.below HT.out (by repeat (first | (with_reducible first | exact HB.out | apply below_alloc | apply pw_below_drewN | apply below_drew1) | exact HB.out))); rintro e w55 ⟨rfl, hb⟩; have n0_ := Aside0.mk (Kd.S_below (by (with_reducible repeat (first | apply Kd.S_alloc | apply Kd.S_drewN | apply Kd.S_drew)); exact HO_5.out) hb); have n1_ := Aside0.mk (Kd.S_below (by (with_reducible repeat (first | apply Kd.S_alloc | apply Kd.S_drewN | apply Kd.S_drew)); exact HO_6.out) hb); have n2_ := Aside0.mk (below_step (by repeat (first | (with_reducible first | exact HB.out | apply below_alloc | apply pw_below_drewN | apply below_drew1) | exact HB.out)) hb); clear HO_5; clear HO_6; clear HB; have HO_5 := n0_; have HO_6 := n1_; have HB := n2_; clear n0_ n1_ n2_; (try clear hb); (try clear hb2); (try clear hk); (try clear hi)))
 repeat (go_quiet (first | (go_at_call 14; (with_reducible refine (interlocklaw12_known.calls k2  t235 _ ?side1 A53.out).mono ?_); (case side1 => exact It.TabOk.below HT.out (by repeat (first | (with_reducible first | exact HB.out | apply below_alloc | apply pw_below_drewN | apply below_drew1) | exact HB.out))); rintro e w55 ⟨rfl, hb⟩; have n0_ := Aside0.mk (Kd.S_below (by (with_reducible repeat (first | apply Kd.S_alloc | apply Kd.S_drewN | apply Kd.S_drew)); exact HO_5.out) hb); have n1_ := Aside0.mk (Kd.S_below (by (with_reducible repeat (first | apply Kd.S_alloc | apply Kd.S_drewN | apply Kd.S_drew)); exact HO_6.out) hb); have n2_ := Aside0.mk (below_step (by repeat (first | (with_reducible first | exact HB.out | apply below_alloc | apply pw_below_drewN | apply below_drew1) | exact HB.out)) hb); clear HO_5; clear HO_6; clear HB; have HO_5 := n0_; have HO_6 := n1_; have HB := n2_; clear n0_ n1_ n2_; (try clear hb); (try clear hb2); (try clear hk); (try clear hi))); try go_wp2_with (first | (go_at_call 14; (with_reducible refine (interlocklaw12_known.calls k2  t235 _ ?side1 A53.out).mono ?_); (case side1 => exact It.TabOk.below HT.out (by repeat (first | (with_reducible first | exact HB.out | apply below_alloc | apply pw_below_drewN | apply below_drew1) | exact HB.out))); rintro e w55 ⟨rfl, hb⟩; have n0_ := Aside0.mk (Kd.S_below (by (with_reducible repeat (first | apply Kd.S_alloc | apply Kd.S_drewN | apply Kd.S_drew)); exact HO_5.out) hb); have n1_ := Aside0.mk (Kd.S_below (by (with_reducible repeat (first | apply Kd.S_alloc | apply Kd.S_drewN | apply Kd.S_drew)); exact HO_6.out) hb); have n2_ := Aside0.mk (below_step (by repeat (first | (with_reducible first | exact HB.out | apply below_alloc | apply pw_below_drewN | apply below_drew1) | exact HB.out)) hb); clear HO_5; clear HO_6; clear HB; have HO_5 := n0_; have HO_6 := n1_; have HB := n2_; clear n0_ n1_ n2_; (try clear hb); (try clear hb2); (try clear hk); (try clear hi))))
 go_ret
 exact ⟨by first | rfl | (simp [errW_none, errW_some] <;> rfl) | (simp [*, errW_none, errW_some] <;> rfl), by repeat (first | (with_reducible first | exact HB.out | apply below_alloc | apply pw_below_drewN | apply below_drew1) | exact HB.out)⟩
 }
 )
 )
 }
 )
 )
end Go.Proofs.YtbnkeddnibjncaaDoor.P
