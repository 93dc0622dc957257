-- written by this project's xprint.py (a turn of the kit's printer; its own texts among them)
import Derived.Test.YtbnkeddnibjncaaDoorPx0
import Derived.Test.YtbnkeddnibjncaaDoorPx1
import Derived.Test.YtbnkeddnibjncaaDoorPx4
import Derived.Test.YtbnkeddnibjncaaDoorPx5
namespace Go.Proofs.YtbnkeddnibjncaaDoor.P
open Go.RowKit Go.Proofs.YtbnkeddnibjncaaDoorW.PrintWords Go.Proofs.YtbnkeddnibjncaaDoorW.PrintLast Go.Proofs.YtbnkeddnibjncaaDoorW.PrintMore
attribute [local go_sem] max2_int min2_int max_two min_two max_three min_three max_four min_four   -- for this text's walks alone
attribute [local irreducible] Calls
set_option linter.unusedVariables false
set_option linter.unusedSimpArgs false

/-! ### interlocklaw12_LoopTwo: function 7 -/
mutual
def interlocklaw12_LoopTwo.l0 : Nat → List (S35) → Int → Option (Bool)
  | 0, _, _ => none
  | k + 1, x5, x6 => if x6 < (x5.length : Int) then (interlocklaw12_LoopTwo.l1 k x5 x6 0) else ((interlocklaw12_known.f k).bind fun t198 => (some t198))
def interlocklaw12_LoopTwo.l1 : Nat → List (S35) → Int → Int → Option (Bool)
  | 0, _, _, _ => none
  | k + 1, x5, x6, x7 => if x7 < x6 then (interlocklaw12_LoopTwo.l2 k x5 x6 x7 0 0) else (interlocklaw12_LoopTwo.l0 k x5 (wrap64 (x6 + 1)))
def interlocklaw12_LoopTwo.l2 : Nat → List (S35) → Int → Int → Int → Int → Option (Bool)
  | 0, _, _, _, _, _ => none
  | k + 1, x5, x6, x7, x8, x9 => if 0 ≤ x6 then (if x6 < (x5.length : Int) then (if x9 < (((rd_T35 x5 x6).f1).length : Int) then (if 0 ≤ x7 then (if x7 < (x5.length : Int) then (if 0 ≤ x9 then ((interlocklaw12_has.f k ((rd_T35 x5 x7).f1) (rd ((rd_T35 x5 x6).f1) x9)).bind fun t203 => (if t203 = true then (interlocklaw12_LoopTwo.l2 k x5 x6 x7 (wrap64 (x8 + 1)) (wrap64 (x9 + 1))) else (interlocklaw12_LoopTwo.l2 k x5 x6 x7 x8 (wrap64 (x9 + 1))))) else (none)) else (none)) else (none)) else (if x8 > 0 then (if x8 < (((rd_T35 x5 x6).f1).length : Int) then (if 0 ≤ x7 then (if x7 < (x5.length : Int) then (if x8 < (((rd_T35 x5 x7).f1).length : Int) then (none) else (interlocklaw12_LoopTwo.l1 k x5 x6 (wrap64 (x7 + 1)))) else (none)) else (none)) else (interlocklaw12_LoopTwo.l1 k x5 x6 (wrap64 (x7 + 1)))) else (interlocklaw12_LoopTwo.l1 k x5 x6 (wrap64 (x7 + 1))))) else (none)) else (none)
end
def interlocklaw12_LoopTwo.f (k : Nat) (a0 : Int) (l1 : List Int) : Option (Bool) := (interlocklaw10_Graph.f k a0 l1).bind fun t192 => ((loop_Of.f k t192).bind fun t195 => (interlocklaw12_LoopTwo.l0 k t195 0))
theorem interlocklaw12_LoopTwo.mono_l : ∀ k, (∀ y0 y1, LeO (interlocklaw12_LoopTwo.l0 k y0 y1) (interlocklaw12_LoopTwo.l0 (k + 1) y0 y1)) ∧ (∀ y0 y1 y2, LeO (interlocklaw12_LoopTwo.l1 k y0 y1 y2) (interlocklaw12_LoopTwo.l1 (k + 1) y0 y1 y2)) ∧ (∀ y0 y1 y2 y3 y4, LeO (interlocklaw12_LoopTwo.l2 k y0 y1 y2 y3 y4) (interlocklaw12_LoopTwo.l2 (k + 1) y0 y1 y2 y3 y4))
  | 0 => ⟨fun _ _ r h => by simp [interlocklaw12_LoopTwo.l0] at h, fun _ _ _ r h => by simp [interlocklaw12_LoopTwo.l1] at h, fun _ _ _ _ _ r h => by simp [interlocklaw12_LoopTwo.l2] at h⟩
  | k + 1 => by
    obtain ⟨ih0, ih1, ih2⟩ := interlocklaw12_LoopTwo.mono_l k
    refine ⟨?_, ?_, ?_⟩
    · intro y0 y1
      unfold interlocklaw12_LoopTwo.l0
      repeat' first
      | (with_reducible exact ih0 _ _)
      | (with_reducible exact ih1 _ _ _)
      | (with_reducible exact ih2 _ _ _ _ _)
      | (with_reducible exact interlocklaw10_Graph.mono _ _ _)
      | (with_reducible exact interlocklaw12_has.mono _ _ _)
      | (with_reducible exact interlocklaw12_known.mono _)
      | (with_reducible exact loop_Of.mono _ _)
      | (with_reducible exact LeO.refl _)
      | (with_reducible exact LeO.none _)
      | (with_reducible refine LeO.ite ?_ ?_)
      | (with_reducible refine LeO.bind ?_ (fun _ => ?_))
      | exact ih0 _ _
      | exact ih1 _ _ _
      | exact ih2 _ _ _ _ _
      | exact LeO.none _
      | refine LeO.ite ?_ ?_
      | refine LeO.bind ?_ (fun _ => ?_)
    · intro y0 y1 y2
      unfold interlocklaw12_LoopTwo.l1
      repeat' first
      | (with_reducible exact ih0 _ _)
      | (with_reducible exact ih1 _ _ _)
      | (with_reducible exact ih2 _ _ _ _ _)
      | (with_reducible exact interlocklaw10_Graph.mono _ _ _)
      | (with_reducible exact interlocklaw12_has.mono _ _ _)
      | (with_reducible exact interlocklaw12_known.mono _)
      | (with_reducible exact loop_Of.mono _ _)
      | (with_reducible exact LeO.refl _)
      | (with_reducible exact LeO.none _)
      | (with_reducible refine LeO.ite ?_ ?_)
      | (with_reducible refine LeO.bind ?_ (fun _ => ?_))
      | exact ih0 _ _
      | exact ih1 _ _ _
      | exact ih2 _ _ _ _ _
      | exact LeO.none _
      | refine LeO.ite ?_ ?_
      | refine LeO.bind ?_ (fun _ => ?_)
    · intro y0 y1 y2 y3 y4
      unfold interlocklaw12_LoopTwo.l2
      repeat' first
      | (with_reducible exact ih0 _ _)
      | (with_reducible exact ih1 _ _ _)
      | (with_reducible exact ih2 _ _ _ _ _)
      | (with_reducible exact interlocklaw10_Graph.mono _ _ _)
      | (with_reducible exact interlocklaw12_has.mono _ _ _)
      | (with_reducible exact interlocklaw12_known.mono _)
      | (with_reducible exact loop_Of.mono _ _)
      | (with_reducible exact LeO.refl _)
      | (with_reducible exact LeO.none _)
      | (with_reducible refine LeO.ite ?_ ?_)
      | (with_reducible refine LeO.bind ?_ (fun _ => ?_))
      | exact ih0 _ _
      | exact ih1 _ _ _
      | exact ih2 _ _ _ _ _
      | exact LeO.none _
      | refine LeO.ite ?_ ?_
      | refine LeO.bind ?_ (fun _ => ?_)
theorem interlocklaw12_LoopTwo.mono : ∀ a0 a1 k, LeO (interlocklaw12_LoopTwo.f k a0 a1) (interlocklaw12_LoopTwo.f (k + 1) a0 a1) := by
  intro a0 a1 k
  obtain ⟨ih0, ih1, ih2⟩ := interlocklaw12_LoopTwo.mono_l k
  unfold interlocklaw12_LoopTwo.f
  repeat' first
      | (with_reducible exact ih0 _ _)
      | (with_reducible exact ih1 _ _ _)
      | (with_reducible exact ih2 _ _ _ _ _)
      | (with_reducible exact interlocklaw10_Graph.mono _ _ _)
      | (with_reducible exact interlocklaw12_has.mono _ _ _)
      | (with_reducible exact interlocklaw12_known.mono _)
      | (with_reducible exact loop_Of.mono _ _)
      | (with_reducible exact LeO.refl _)
      | (with_reducible exact LeO.none _)
      | (with_reducible refine LeO.ite ?_ ?_)
      | (with_reducible refine LeO.bind ?_ (fun _ => ?_))
      | exact ih0 _ _
      | exact ih1 _ _ _
      | exact ih2 _ _ _ _ _
      | exact LeO.none _
      | refine LeO.ite ?_ ?_
      | refine LeO.bind ?_ (fun _ => ?_)
set_option maxHeartbeats 8000000 in
set_option maxRecDepth 100000 in
theorem interlocklaw12_LoopTwo.calls (k : Nat) (a0 : Int) (A1 : Option Addr) (c1 : Nat) (l1 : List Int) (r : Bool) (w : World) (hr1 : Kd.C (Kd.int .u8) w A1 l1.length l1) (hc1 : l1.length ≤ c1) (HT0 : It.TabOk w) (h : interlocklaw12_LoopTwo.f k a0 l1 = some r) :
    Calls Tryd.prog 7 #[.int .u8 a0, .slice A1 l1.length c1] w fun e w' => e = .returned (.bool r) ∧ Below w.heap.size w w' := by
 have HT := Aside0.mk HT0
 clear HT0
 have HR1 := Aside0.mk hr1
 have HC1 := Aside0.mk hc1
 clear hr1 hc1
 have HB := Aside0.mk (Below.refl w.heap.size w)
 have H : ((interlocklaw10_Graph.f k a0 l1).bind fun t192 => ((loop_Of.f k t192).bind fun t195 => (interlocklaw12_LoopTwo.l0 k t195 0))) = some r := h
 clear h
 replace H := Option.bind_eq_some_iff.mp H
 obtain ⟨t192, A30, H⟩ := H
 replace H : ((loop_Of.f k t192).bind fun t195 => (interlocklaw12_LoopTwo.l0 k t195 0)) = some r := H
 have A3 := Aside0.mk A30
 clear A30
 replace H := Option.bind_eq_some_iff.mp H
 obtain ⟨t195, A40, H⟩ := H
 replace H : (interlocklaw12_LoopTwo.l0 k t195 0) = some r := H
 have A4 := Aside0.mk A40
 clear A40
 have H' := Aside0.mk H
 clear H
 go_enter Tryd.func7, Tryd.ntmps7
 go_wp2_with (first | (go_at_call 8; (with_reducible refine (interlocklaw10_Graph.calls k a0 _ _ l1 t192 _ ?side1 ?side2 A3.out).mono ?_); (case side1 => repeat (first | exact HR1.out | (with_reducible refine Kd.C_alloc ?_ _) | (with_reducible refine Kd.C_drewN ?_ _) | (with_reducible refine Kd.C_drew ?_))); (case side2 => exact HC1.out); rintro e w5 ⟨v193, rfl, ho0, hb⟩; have n0_ := Aside0.mk (Kd.S_lower ho0 (below_size (by repeat (first | (with_reducible first | exact HB.out | apply below_alloc | apply pw_below_drewN | apply below_drew1) | exact HB.out)))); have n1_ := Aside0.mk (below_step (by repeat (first | (with_reducible first | exact HB.out | apply below_alloc | apply pw_below_drewN | apply below_drew1) | exact HB.out)) hb); clear HB; have HO194 := n0_; have HB := n1_; clear n0_ n1_; (try clear hb); (try clear hb2); (try clear hk); (try clear hi); (try clear ho0); obtain ⟨Ao6, co6, eo6⟩ := Kd.S_slice HO194.out; subst eo6) | (go_at_call 9; (with_reducible refine (loop_Of.calls k _ _ t192 t195 _ ?side1 ?side2 ?side3 A4.out).mono ?_); (case side1 => repeat (first | exact (Kd.S_reads' HO194.out).2.2 | (with_reducible refine Kd.C_alloc ?_ _) | (with_reducible refine Kd.C_drewN ?_ _) | (with_reducible refine Kd.C_drew ?_))); (case side2 => exact (Kd.S_reads' HO194.out).2.1); (case side3 => exact It.TabOk.below HT.out (by repeat (first | (with_reducible first | exact HB.out | apply below_alloc | apply pw_below_drewN | apply below_drew1) | exact HB.out))); rintro e w7 ⟨v196, rfl, ho0, hb⟩; have n0_ := Aside0.mk (Kd.S_below (by (with_reducible repeat (first | apply Kd.S_alloc | apply Kd.S_drewN | apply Kd.S_drew)); exact HO194.out) hb); have n1_ := Aside0.mk (Kd.S_lower ho0 (below_size (by repeat (first | (with_reducible first | exact HB.out | apply below_alloc | apply pw_below_drewN | apply below_drew1) | exact HB.out)))); have n2_ := Aside0.mk (below_step (by repeat (first | (with_reducible first | exact HB.out | apply below_alloc | apply pw_below_drewN | apply below_drew1) | exact HB.out)) hb); clear HO194; clear HB; have HO194 := n0_; have HO197 := n1_; have HB := n2_; clear n0_ n1_ n2_; (try clear hb); (try clear hb2); (try clear hk); (try clear hi); (try clear ho0)))
 repeat (go_quiet (first | (go_at_call 8; (with_reducible refine (interlocklaw10_Graph.calls k a0 _ _ l1 t192 _ ?side1 ?side2 A3.out).mono ?_); (case side1 => repeat (first | exact HR1.out | (with_reducible refine Kd.C_alloc ?_ _) | (with_reducible refine Kd.C_drewN ?_ _) | (with_reducible refine Kd.C_drew ?_))); (case side2 => exact HC1.out); rintro e w5 ⟨v193, rfl, ho0, hb⟩; have n0_ := Aside0.mk (Kd.S_lower ho0 (below_size (by repeat (first | (with_reducible first | exact HB.out | apply below_alloc | apply pw_below_drewN | apply below_drew1) | exact HB.out)))); have n1_ := Aside0.mk (below_step (by repeat (first | (with_reducible first | exact HB.out | apply below_alloc | apply pw_below_drewN | apply below_drew1) | exact HB.out)) hb); clear HB; have HO194 := n0_; have HB := n1_; clear n0_ n1_; (try clear hb); (try clear hb2); (try clear hk); (try clear hi); (try clear ho0); obtain ⟨Ao6, co6, eo6⟩ := Kd.S_slice HO194.out; subst eo6) | (go_at_call 9; (with_reducible refine (loop_Of.calls k _ _ t192 t195 _ ?side1 ?side2 ?side3 A4.out).mono ?_); (case side1 => repeat (first | exact (Kd.S_reads' HO194.out).2.2 | (with_reducible refine Kd.C_alloc ?_ _) | (with_reducible refine Kd.C_drewN ?_ _) | (with_reducible refine Kd.C_drew ?_))); (case side2 => exact (Kd.S_reads' HO194.out).2.1); (case side3 => exact It.TabOk.below HT.out (by repeat (first | (with_reducible first | exact HB.out | apply below_alloc | apply pw_below_drewN | apply below_drew1) | exact HB.out))); rintro e w7 ⟨v196, rfl, ho0, hb⟩; have n0_ := Aside0.mk (Kd.S_below (by (with_reducible repeat (first | apply Kd.S_alloc | apply Kd.S_drewN | apply Kd.S_drew)); exact HO194.out) hb); have n1_ := Aside0.mk (Kd.S_lower ho0 (below_size (by repeat (first | (with_reducible first | exact HB.out | apply below_alloc | apply pw_below_drewN | apply below_drew1) | exact HB.out)))); have n2_ := Aside0.mk (below_step (by repeat (first | (with_reducible first | exact HB.out | apply below_alloc | apply pw_below_drewN | apply below_drew1) | exact HB.out)) hb); clear HO194; clear HB; have HO194 := n0_; have HO197 := n1_; have HB := n2_; clear n0_ n1_ n2_; (try clear hb); (try clear hb2); (try clear hk); (try clear hi); (try clear ho0))); try go_wp2_with (first | (go_at_call 8; (with_reducible refine (interlocklaw10_Graph.calls k a0 _ _ l1 t192 _ ?side1 ?side2 A3.out).mono ?_); (case side1 => repeat (first | exact HR1.out | (with_reducible refine Kd.C_alloc ?_ _) | (with_reducible refine Kd.C_drewN ?_ _) | (with_reducible refine Kd.C_drew ?_))); (case side2 => exact HC1.out); rintro e w5 ⟨v193, rfl, ho0, hb⟩; have n0_ := Aside0.mk (Kd.S_lower ho0 (below_size (by repeat (first | (with_reducible first | exact HB.out | apply below_alloc | apply pw_below_drewN | apply below_drew1) | exact HB.out)))); have n1_ := Aside0.mk (below_step (by repeat (first | (with_reducible first | exact HB.out | apply below_alloc | apply pw_below_drewN | apply below_drew1) | exact HB.out)) hb); clear HB; have HO194 := n0_; have HB := n1_; clear n0_ n1_; (try clear hb); (try clear hb2); (try clear hk); (try clear hi); (try clear ho0); obtain ⟨Ao6, co6, eo6⟩ := Kd.S_slice HO194.out; subst eo6) | (go_at_call 9; (with_reducible refine (loop_Of.calls k _ _ t192 t195 _ ?side1 ?side2 ?side3 A4.out).mono ?_); (case side1 => repeat (first | exact (Kd.S_reads' HO194.out).2.2 | (with_reducible refine Kd.C_alloc ?_ _) | (with_reducible refine Kd.C_drewN ?_ _) | (with_reducible refine Kd.C_drew ?_))); (case side2 => exact (Kd.S_reads' HO194.out).2.1); (case side3 => exact It.TabOk.below HT.out (by repeat (first | (with_reducible first | exact HB.out | apply below_alloc | apply pw_below_drewN | apply below_drew1) | exact HB.out))); rintro e w7 ⟨v196, rfl, ho0, hb⟩; have n0_ := Aside0.mk (Kd.S_below (by (with_reducible repeat (first | apply Kd.S_alloc | apply Kd.S_drewN | apply Kd.S_drew)); exact HO194.out) hb); have n1_ := Aside0.mk (Kd.S_lower ho0 (below_size (by repeat (first | (with_reducible first | exact HB.out | apply below_alloc | apply pw_below_drewN | apply below_drew1) | exact HB.out)))); have n2_ := Aside0.mk (below_step (by repeat (first | (with_reducible first | exact HB.out | apply below_alloc | apply pw_below_drewN | apply below_drew1) | exact HB.out)) hb); clear HO194; clear HB; have HO194 := n0_; have HO197 := n1_; have HB := n2_; clear n0_ n1_ n2_; (try clear hb); (try clear hb2); (try clear hk); (try clear hi); (try clear ho0))))
 go_loopg [6] k (fun kq v6 w' => ∃ (x6_1 : Int), v6 = .int .i64 x6_1 ∧ Aside0 (interlocklaw12_LoopTwo.l0 kq t195 x6_1 = some r) ∧ Aside0 (kq ≤ k) ∧ Aside0 (Kd.S k35 35 w' w.heap.size (fun _ => True) v196 t195) ∧ Aside0 (Below w.heap.size w w'))
 case atStart => exact ⟨(0), (by first | rfl | (simp; done) | (simp [*]; done)), H', ⟨Nat.le_refl _⟩, ⟨by (with_reducible repeat (first | apply Kd.S_alloc | apply Kd.S_drewN | apply Kd.S_drew)); exact HO197.out⟩, ⟨by repeat (first | (with_reducible first | exact HB.out | apply below_alloc | apply pw_below_drewN | apply below_drew1) | exact HB.out)⟩⟩
 case round => (
 clear H'
 try clear c1
 try clear p2
 try clear c7
 obtain ⟨x6_1, rfl, HA, HK1, HO_5, HB⟩ := hrel
 cases gk with
 | zero => exact absurd HA.out (by simp [interlocklaw12_LoopTwo.l0])
 | succ k1 => (
 have H := HA.out
 clear HA
 simp only [interlocklaw12_LoopTwo.l0] at H
 by_cases c8 : x6_1 < (t195.length : Int)
 {
 rw [if_pos c8] at H
 have c8b0 : decide (x6_1 < (t195.length : Int)) = true := decide_eq_true c8
 clear c8
 have H' := Aside0.mk H
 clear H
 obtain ⟨Ao9, co9, eo9⟩ := Kd.S_slice HO_5.out
 subst eo9
 go_wp2
 repeat (go_quiet (fail); try go_wp2)
 go_loopg [7] k1 (fun kq v7 w' => ∃ (x7_2 : Int), v7 = .int .i64 x7_2 ∧ Aside0 (interlocklaw12_LoopTwo.l1 kq t195 x6_1 x7_2 = some r) ∧ Aside0 (kq ≤ k1) ∧ Aside0 (Kd.S k35 35 w' w.heap.size (fun _ => True) (.slice Ao9 t195.length co9) t195) ∧ Aside0 (Below w.heap.size w w'))
 case atStart => exact ⟨(0), (by first | rfl | (simp; done) | (simp [*]; done)), H', ⟨Nat.le_refl _⟩, ⟨by (with_reducible repeat (first | apply Kd.S_alloc | apply Kd.S_drewN | apply Kd.S_drew)); exact HO_5.out⟩, ⟨by repeat (first | (with_reducible first | exact HB.out | apply below_alloc | apply pw_below_drewN | apply below_drew1) | exact HB.out)⟩⟩
 case round => (
 clear H'
 try clear c1
 try clear p2
 try clear c7
 try clear c8
 try clear c8b0
 try clear p2
 obtain ⟨x7_2, rfl, HA, HK2, HO_5, HB⟩ := hrel
 cases gk with
 | zero => exact absurd HA.out (by simp [interlocklaw12_LoopTwo.l1])
 | succ k2 => (
 have H := HA.out
 clear HA
 simp only [interlocklaw12_LoopTwo.l1] at H
 by_cases c10 : x7_2 < x6_1
 {
 rw [if_pos c10] at H
 have c10b0 : decide (x7_2 < x6_1) = true := decide_eq_true c10
 clear c10
 have H' := Aside0.mk H
 clear H
 go_wp2
 repeat (go_quiet (fail); try go_wp2)
 go_loopg [8, 9] k2 (fun kq v8 v9 w' => ∃ (x8_3 : Int) (x9_3 : Int), v8 = .int .i64 x8_3 ∧ v9 = .int .i64 x9_3 ∧ Aside0 (interlocklaw12_LoopTwo.l2 kq t195 x6_1 x7_2 x8_3 x9_3 = some r) ∧ Aside0 (kq ≤ k2) ∧ Aside0 (Kd.S k35 35 w' w.heap.size (fun _ => True) (.slice Ao9 t195.length co9) t195) ∧ Aside0 (Below w.heap.size w w'))
 case atStart => exact ⟨(0), (0), (by first | rfl | (simp; done) | (simp [*]; done)), (by first | rfl | (simp; done) | (simp [*]; done)), H', ⟨Nat.le_refl _⟩, ⟨by (with_reducible repeat (first | apply Kd.S_alloc | apply Kd.S_drewN | apply Kd.S_drew)); exact HO_5.out⟩, ⟨by repeat (first | (with_reducible first | exact HB.out | apply below_alloc | apply pw_below_drewN | apply below_drew1) | exact HB.out)⟩⟩
 case round => (
 clear H'
 try clear c1
 try clear p2
 try clear c7
 try clear c8
 try clear c8b0
 try clear c10
 try clear c10b0
 try clear p2
 obtain ⟨x8_3, x9_3, rfl, rfl, HA, HK3, HO_5, HB⟩ := hrel
 cases gk with
 | zero => exact absurd HA.out (by simp [interlocklaw12_LoopTwo.l2])
 | succ k3 => (
 have H := HA.out
 clear HA
 simp only [interlocklaw12_LoopTwo.l2] at H
 by_cases c11 : 0 ≤ x6_1
 {
 rw [if_pos c11] at H
 have c11b0 : decide (0 ≤ x6_1) = true := decide_eq_true c11
 clear c11
 by_cases c12 : x6_1 < (t195.length : Int)
 {
 rw [if_pos c12] at H
 have c12b0 : decide (x6_1 < (t195.length : Int)) = true := decide_eq_true c12
 clear c12
 by_cases c13 : x9_3 < (((rd_T35 t195 x6_1).f1).length : Int)
 {
 rw [if_pos c13] at H
 have c13b0 : decide (x9_3 < (((rd_T35 t195 x6_1).f1).length : Int)) = true := decide_eq_true c13
 clear c13
 by_cases c14 : 0 ≤ x7_2
 {
 rw [if_pos c14] at H
 have c14b0 : decide (0 ≤ x7_2) = true := decide_eq_true c14
 clear c14
 by_cases c15 : x7_2 < (t195.length : Int)
 {
 rw [if_pos c15] at H
 have c15b0 : decide (x7_2 < (t195.length : Int)) = true := decide_eq_true c15
 clear c15
 by_cases c16 : 0 ≤ x9_3
 {
 rw [if_pos c16] at H
 have c16b0 : decide (0 ≤ x9_3) = true := decide_eq_true c16
 clear c16
 replace H := Option.bind_eq_some_iff.mp H
 obtain ⟨t203, A170, H⟩ := H
 replace H : (if t203 = true then (interlocklaw12_LoopTwo.l2 k3 t195 x6_1 x7_2 (wrap64 (x8_3 + 1)) (wrap64 (x9_3 + 1))) else (interlocklaw12_LoopTwo.l2 k3 t195 x6_1 x7_2 x8_3 (wrap64 (x9_3 + 1)))) = some r := H
 have A17 := Aside0.mk A170
 clear A170
 by_cases c18 : t203 = true
 {
 subst c18
 have H1 : (interlocklaw12_LoopTwo.l2 k3 t195 x6_1 x7_2 (wrap64 (x8_3 + 1)) (wrap64 (x9_3 + 1))) = some r := by rw [if_pos rfl] at H; exact H
 clear H
 have H := H1
 clear H1
 have H' := Aside0.mk H
 clear H
 have p199 : 0 ≤ (x6_1 : Int) := of_decide_eq_true (by first | (with_reducible assumption) | assumption)
 have q199 : x6_1 < (t195.length : Int) := of_decide_eq_true (by first | (with_reducible assumption) | assumption)
 obtain ⟨ad199, A199_1, c199_1, e199, hx199_0, hx199_1, hl199_1, hi199_1⟩ := at_T35 (Kd.S_reads' HO_5.out).2.2 x6_1 p199 q199
 cases e199
 obtain ⟨ce199, hce199, hMe199, hcc199⟩ := Kd.S_get HO_5.out z35 x6_1 p199 (by first | exact q199 | exact of_decide_eq_true (by first | (with_reducible assumption) | assumption) | (have e_ := (Kd.S_reads' HO_5.out).1; omega))
 obtain ⟨ve199_1, rfl, ge199_1⟩ := k35_openM hMe199
 have hv199_1 := hcc199 1 _ rfl
 rw [add_field _ _ 1 (by omega)] at hv199_1
 replace hv199_1 := Option.some.inj (hv199_1.symm.trans hx199_1)
 rw [hv199_1] at ge199_1
 have HL199_1 := Aside0.mk (show Kd.R (Kd.int .i64) 3 _ _ _ _ ((rd_T35 t195 x6_1).f1) from ge199_1)
 clear hv199_1 ge199_1
 clear hcc199 hce199
 have HR199_1 := Aside0.mk hi199_1
 have HC199_1 := Aside0.mk hl199_1
 clear hi199_1 hl199_1
 replace p199 := eq_true p199
 replace q199 := eq_true q199
 have p200 : 0 ≤ (x7_2 : Int) := of_decide_eq_true (by first | (with_reducible assumption) | assumption)
 have q200 : x7_2 < (t195.length : Int) := of_decide_eq_true (by first | (with_reducible assumption) | assumption)
 obtain ⟨ad200, A200_1, c200_1, e200, hx200_0, hx200_1, hl200_1, hi200_1⟩ := at_T35 (Kd.S_reads' HO_5.out).2.2 x7_2 p200 q200
 obtain rfl : ad199 = ad200 := (by injection e200)
 obtain ⟨ce200, hce200, hMe200, hcc200⟩ := Kd.S_get HO_5.out z35 x7_2 p200 (by first | exact q200 | exact of_decide_eq_true (by first | (with_reducible assumption) | assumption) | (have e_ := (Kd.S_reads' HO_5.out).1; omega))
 obtain ⟨ve200_1, rfl, ge200_1⟩ := k35_openM hMe200
 have hv200_1 := hcc200 1 _ rfl
 rw [add_field _ _ 1 (by omega)] at hv200_1
 replace hv200_1 := Option.some.inj (hv200_1.symm.trans hx200_1)
 rw [hv200_1] at ge200_1
 have HL200_1 := Aside0.mk (show Kd.R (Kd.int .i64) 3 _ _ _ _ ((rd_T35 t195 x7_2).f1) from ge200_1)
 clear hv200_1 ge200_1
 clear hcc200 hce200
 have HR200_1 := Aside0.mk hi200_1
 have HC200_1 := Aside0.mk hl200_1
 clear hi200_1 hl200_1
 replace p200 := eq_true p200
 replace q200 := eq_true q200
 have p201 : 0 ≤ (x6_1 : Int) := of_decide_eq_true (by first | (with_reducible assumption) | assumption)
 have q201 : x6_1 < (t195.length : Int) := of_decide_eq_true (by first | (with_reducible assumption) | assumption)
 obtain ⟨ad201, A201_1, c201_1, e201, hx201_0, hx201_1, hl201_1, hi201_1⟩ := at_T35 (Kd.S_reads' HO_5.out).2.2 x6_1 p201 q201
 obtain rfl : ad199 = ad201 := (by injection e201)
 obtain ⟨ce201, hce201, hMe201, hcc201⟩ := Kd.S_get HO_5.out z35 x6_1 p201 (by first | exact q201 | exact of_decide_eq_true (by first | (with_reducible assumption) | assumption) | (have e_ := (Kd.S_reads' HO_5.out).1; omega))
 obtain ⟨ve201_1, rfl, ge201_1⟩ := k35_openM hMe201
 have hv201_1 := hcc201 1 _ rfl
 rw [add_field _ _ 1 (by omega)] at hv201_1
 replace hv201_1 := Option.some.inj (hv201_1.symm.trans hx201_1)
 rw [hv201_1] at ge201_1
 have HL201_1 := Aside0.mk (show Kd.R (Kd.int .i64) 3 _ _ _ _ ((rd_T35 t195 x6_1).f1) from ge201_1)
 clear hv201_1 ge201_1
 clear hcc201 hce201
 have HR201_1 := Aside0.mk hi201_1
 have HC201_1 := Aside0.mk hl201_1
 clear hi201_1 hl201_1
 replace p201 := eq_true p201
 replace q201 := eq_true q201
 have ea_ := Option.some.inj (hx199_1.symm.trans hx201_1)
 injection ea_ with ea_ en_ ec_
 subst ea_
 subst ec_
 clear en_
 have p202 : 0 ≤ (x9_3 : Int) := of_decide_eq_true (by first | (with_reducible assumption) | assumption)
 have q202 : x9_3 < (((rd_T35 t195 x6_1).f1).length : Int) := of_decide_eq_true (by first | (with_reducible assumption) | assumption)
 obtain ⟨ad202, e202, hx202_0⟩ := Kd.at_int (by repeat (first | (with_reducible exact HR201_1.out) | (with_reducible refine Kd.C_alloc ?_ _) | (with_reducible refine Kd.C_drewN ?_ _) | (with_reducible refine Kd.C_drew ?_) | exact HR201_1.out)) x9_3 p202 q202
 cases e202
 replace p202 := eq_true p202
 replace q202 := eq_true q202
 go_wp2_with (first | (go_at_call 13; (with_reducible refine (interlocklaw12_has.calls k3 _ _ ((rd_T35 t195 x7_2).f1) (rd ((rd_T35 t195 x6_1).f1) x9_3) true _ ?side1 ?side2 A17.out).mono ?_); (case side1 => repeat (first | exact (by repeat (first | (with_reducible exact HR200_1.out) | (with_reducible refine Kd.C_alloc ?_ _) | (with_reducible refine Kd.C_drewN ?_ _) | (with_reducible refine Kd.C_drew ?_) | exact HR200_1.out)) | (with_reducible refine Kd.C_alloc ?_ _) | (with_reducible refine Kd.C_drewN ?_ _) | (with_reducible refine Kd.C_drew ?_))); (case side2 => exact HC200_1.out); rintro e w' ⟨rfl, ⟨nd, rfl⟩⟩; (try first | exact ⟨rfl, _, World.drewN_drewN _ _ _⟩ | exact ⟨rfl, _, Eq.trans (World.drewN_drewN _ _ _) (congrArg (World.drewN _) (Nat.add_assoc _ _ _))⟩)))
 repeat (go_quiet (first | (go_at_call 13; (with_reducible refine (interlocklaw12_has.calls k3 _ _ ((rd_T35 t195 x7_2).f1) (rd ((rd_T35 t195 x6_1).f1) x9_3) true _ ?side1 ?side2 A17.out).mono ?_); (case side1 => repeat (first | exact (by repeat (first | (with_reducible exact HR200_1.out) | (with_reducible refine Kd.C_alloc ?_ _) | (with_reducible refine Kd.C_drewN ?_ _) | (with_reducible refine Kd.C_drew ?_) | exact HR200_1.out)) | (with_reducible refine Kd.C_alloc ?_ _) | (with_reducible refine Kd.C_drewN ?_ _) | (with_reducible refine Kd.C_drew ?_))); (case side2 => exact HC200_1.out); rintro e w' ⟨rfl, ⟨nd, rfl⟩⟩; (try first | exact ⟨rfl, _, World.drewN_drewN _ _ _⟩ | exact ⟨rfl, _, Eq.trans (World.drewN_drewN _ _ _) (congrArg (World.drewN _) (Nat.add_assoc _ _ _))⟩))); try go_wp2_with (first | (go_at_call 13; (with_reducible refine (interlocklaw12_has.calls k3 _ _ ((rd_T35 t195 x7_2).f1) (rd ((rd_T35 t195 x6_1).f1) x9_3) true _ ?side1 ?side2 A17.out).mono ?_); (case side1 => repeat (first | exact (by repeat (first | (with_reducible exact HR200_1.out) | (with_reducible refine Kd.C_alloc ?_ _) | (with_reducible refine Kd.C_drewN ?_ _) | (with_reducible refine Kd.C_drew ?_) | exact HR200_1.out)) | (with_reducible refine Kd.C_alloc ?_ _) | (with_reducible refine Kd.C_drewN ?_ _) | (with_reducible refine Kd.C_drew ?_))); (case side2 => exact HC200_1.out); rintro e w' ⟨rfl, ⟨nd, rfl⟩⟩; (try first | exact ⟨rfl, _, World.drewN_drewN _ _ _⟩ | exact ⟨rfl, _, Eq.trans (World.drewN_drewN _ _ _) (congrArg (World.drewN _) (Nat.add_assoc _ _ _))⟩))))
 go_roundg k3
 case measure => have := HK1.out; have := HK2.out; have := HK3.out; omega
 case rel => exact ⟨(wrap64 (x8_3 + 1)), (wrap64 (x9_3 + 1)), (by first | rfl | (simp; done) | (simp [*]; done)), (by first | rfl | (simp; done) | (simp [*]; done)), H', ⟨by have := HK1.out; have := HK2.out; have := HK3.out; omega⟩, ⟨by (with_reducible repeat (first | apply Kd.S_alloc | apply Kd.S_drewN | apply Kd.S_drew)); exact HO_5.out⟩, ⟨by repeat (first | (with_reducible first | exact HB.out | apply below_alloc | apply pw_below_drewN | apply below_drew1) | exact HB.out)⟩⟩
 }
 {
 replace c18 := Bool.eq_false_iff.mpr c18
 subst c18
 have H1 : (interlocklaw12_LoopTwo.l2 k3 t195 x6_1 x7_2 x8_3 (wrap64 (x9_3 + 1))) = some r := by rw [if_neg (show ¬ (false = true) by decide)] at H; exact H
 clear H
 have H := H1
 clear H1
 have H' := Aside0.mk H
 clear H
 have p199 : 0 ≤ (x6_1 : Int) := of_decide_eq_true (by first | (with_reducible assumption) | assumption)
 have q199 : x6_1 < (t195.length : Int) := of_decide_eq_true (by first | (with_reducible assumption) | assumption)
 obtain ⟨ad199, A199_1, c199_1, e199, hx199_0, hx199_1, hl199_1, hi199_1⟩ := at_T35 (Kd.S_reads' HO_5.out).2.2 x6_1 p199 q199
 cases e199
 obtain ⟨ce199, hce199, hMe199, hcc199⟩ := Kd.S_get HO_5.out z35 x6_1 p199 (by first | exact q199 | exact of_decide_eq_true (by first | (with_reducible assumption) | assumption) | (have e_ := (Kd.S_reads' HO_5.out).1; omega))
 obtain ⟨ve199_1, rfl, ge199_1⟩ := k35_openM hMe199
 have hv199_1 := hcc199 1 _ rfl
 rw [add_field _ _ 1 (by omega)] at hv199_1
 replace hv199_1 := Option.some.inj (hv199_1.symm.trans hx199_1)
 rw [hv199_1] at ge199_1
 have HL199_1 := Aside0.mk (show Kd.R (Kd.int .i64) 3 _ _ _ _ ((rd_T35 t195 x6_1).f1) from ge199_1)
 clear hv199_1 ge199_1
 clear hcc199 hce199
 have HR199_1 := Aside0.mk hi199_1
 have HC199_1 := Aside0.mk hl199_1
 clear hi199_1 hl199_1
 replace p199 := eq_true p199
 replace q199 := eq_true q199
 have p200 : 0 ≤ (x7_2 : Int) := of_decide_eq_true (by first | (with_reducible assumption) | assumption)
 have q200 : x7_2 < (t195.length : Int) := of_decide_eq_true (by first | (with_reducible assumption) | assumption)
 obtain ⟨ad200, A200_1, c200_1, e200, hx200_0, hx200_1, hl200_1, hi200_1⟩ := at_T35 (Kd.S_reads' HO_5.out).2.2 x7_2 p200 q200
 obtain rfl : ad199 = ad200 := (by injection e200)
 obtain ⟨ce200, hce200, hMe200, hcc200⟩ := Kd.S_get HO_5.out z35 x7_2 p200 (by first | exact q200 | exact of_decide_eq_true (by first | (with_reducible assumption) | assumption) | (have e_ := (Kd.S_reads' HO_5.out).1; omega))
 obtain ⟨ve200_1, rfl, ge200_1⟩ := k35_openM hMe200
 have hv200_1 := hcc200 1 _ rfl
 rw [add_field _ _ 1 (by omega)] at hv200_1
 replace hv200_1 := Option.some.inj (hv200_1.symm.trans hx200_1)
 rw [hv200_1] at ge200_1
 have HL200_1 := Aside0.mk (show Kd.R (Kd.int .i64) 3 _ _ _ _ ((rd_T35 t195 x7_2).f1) from ge200_1)
 clear hv200_1 ge200_1
 clear hcc200 hce200
 have HR200_1 := Aside0.mk hi200_1
 have HC200_1 := Aside0.mk hl200_1
 clear hi200_1 hl200_1
 replace p200 := eq_true p200
 replace q200 := eq_true q200
 have p201 : 0 ≤ (x6_1 : Int) := of_decide_eq_true (by first | (with_reducible assumption) | assumption)
 have q201 : x6_1 < (t195.length : Int) := of_decide_eq_true (by first | (with_reducible assumption) | assumption)
 obtain ⟨ad201, A201_1, c201_1, e201, hx201_0, hx201_1, hl201_1, hi201_1⟩ := at_T35 (Kd.S_reads' HO_5.out).2.2 x6_1 p201 q201
 obtain rfl : ad199 = ad201 := (by injection e201)
 obtain ⟨ce201, hce201, hMe201, hcc201⟩ := Kd.S_get HO_5.out z35 x6_1 p201 (by first | exact q201 | exact of_decide_eq_true (by first | (with_reducible assumption) | assumption) | (have e_ := (Kd.S_reads' HO_5.out).1; omega))
 obtain ⟨ve201_1, rfl, ge201_1⟩ := k35_openM hMe201
 have hv201_1 := hcc201 1 _ rfl
 rw [add_field _ _ 1 (by omega)] at hv201_1
 replace hv201_1 := Option.some.inj (hv201_1.symm.trans hx201_1)
 rw [hv201_1] at ge201_1
 have HL201_1 := Aside0.mk (show Kd.R (Kd.int .i64) 3 _ _ _ _ ((rd_T35 t195 x6_1).f1) from ge201_1)
 clear hv201_1 ge201_1
 clear hcc201 hce201
 have HR201_1 := Aside0.mk hi201_1
 have HC201_1 := Aside0.mk hl201_1
 clear hi201_1 hl201_1
 replace p201 := eq_true p201
 replace q201 := eq_true q201
 have ea_ := Option.some.inj (hx199_1.symm.trans hx201_1)
 injection ea_ with ea_ en_ ec_
 subst ea_
 subst ec_
 clear en_
 have p202 : 0 ≤ (x9_3 : Int) := of_decide_eq_true (by first | (with_reducible assumption) | assumption)
 have q202 : x9_3 < (((rd_T35 t195 x6_1).f1).length : Int) := of_decide_eq_true (by first | (with_reducible assumption) | assumption)
 obtain ⟨ad202, e202, hx202_0⟩ := Kd.at_int (by repeat (first | (with_reducible exact HR201_1.out) | (with_reducible refine Kd.C_alloc ?_ _) | (with_reducible refine Kd.C_drewN ?_ _) | (with_reducible refine Kd.C_drew ?_) | exact HR201_1.out)) x9_3 p202 q202
 cases e202
 replace p202 := eq_true p202
 replace q202 := eq_true q202
 go_wp2_with (first | (go_at_call 13; (with_reducible refine (interlocklaw12_has.calls k3 _ _ ((rd_T35 t195 x7_2).f1) (rd ((rd_T35 t195 x6_1).f1) x9_3) false _ ?side1 ?side2 A17.out).mono ?_); (case side1 => repeat (first | exact (by repeat (first | (with_reducible exact HR200_1.out) | (with_reducible refine Kd.C_alloc ?_ _) | (with_reducible refine Kd.C_drewN ?_ _) | (with_reducible refine Kd.C_drew ?_) | exact HR200_1.out)) | (with_reducible refine Kd.C_alloc ?_ _) | (with_reducible refine Kd.C_drewN ?_ _) | (with_reducible refine Kd.C_drew ?_))); (case side2 => exact HC200_1.out); rintro e w' ⟨rfl, ⟨nd, rfl⟩⟩; (try first | exact ⟨rfl, _, World.drewN_drewN _ _ _⟩ | exact ⟨rfl, _, Eq.trans (World.drewN_drewN _ _ _) (congrArg (World.drewN _) (Nat.add_assoc _ _ _))⟩)))
 repeat (go_quiet (first | (go_at_call 13; (with_reducible refine (interlocklaw12_has.calls k3 _ _ ((rd_T35 t195 x7_2).f1) (rd ((rd_T35 t195 x6_1).f1) x9_3) false _ ?side1 ?side2 A17.out).mono ?_); (case side1 => repeat (first | exact (by repeat (first | (with_reducible exact HR200_1.out) | (with_reducible refine Kd.C_alloc ?_ _) | (with_reducible refine Kd.C_drewN ?_ _) | (with_reducible refine Kd.C_drew ?_) | exact HR200_1.out)) | (with_reducible refine Kd.C_alloc ?_ _) | (with_reducible refine Kd.C_drewN ?_ _) | (with_reducible refine Kd.C_drew ?_))); (case side2 => exact HC200_1.out); rintro e w' ⟨rfl, ⟨nd, rfl⟩⟩; (try first | exact ⟨rfl, _, World.drewN_drewN _ _ _⟩ | exact ⟨rfl, _, Eq.trans (World.drewN_drewN _ _ _) (congrArg (World.drewN _) (Nat.add_assoc _ _ _))⟩))); try go_wp2_with (first | (go_at_call 13; (with_reducible refine (interlocklaw12_has.calls k3 _ _ ((rd_T35 t195 x7_2).f1) (rd ((rd_T35 t195 x6_1).f1) x9_3) false _ ?side1 ?side2 A17.out).mono ?_); (case side1 => repeat (first | exact (by repeat (first | (with_reducible exact HR200_1.out) | (with_reducible refine Kd.C_alloc ?_ _) | (with_reducible refine Kd.C_drewN ?_ _) | (with_reducible refine Kd.C_drew ?_) | exact HR200_1.out)) | (with_reducible refine Kd.C_alloc ?_ _) | (with_reducible refine Kd.C_drewN ?_ _) | (with_reducible refine Kd.C_drew ?_))); (case side2 => exact HC200_1.out); rintro e w' ⟨rfl, ⟨nd, rfl⟩⟩; (try first | exact ⟨rfl, _, World.drewN_drewN _ _ _⟩ | exact ⟨rfl, _, Eq.trans (World.drewN_drewN _ _ _) (congrArg (World.drewN _) (Nat.add_assoc _ _ _))⟩))))
 go_roundg k3
 case measure => have := HK1.out; have := HK2.out; have := HK3.out; omega
 case rel => exact ⟨(x8_3), (wrap64 (x9_3 + 1)), (by first | rfl | (simp; done) | (simp [*]; done)), (by first | rfl | (simp; done) | (simp [*]; done)), H', ⟨by have := HK1.out; have := HK2.out; have := HK3.out; omega⟩, ⟨by (with_reducible repeat (first | apply Kd.S_alloc | apply Kd.S_drewN | apply Kd.S_drew)); exact HO_5.out⟩, ⟨by repeat (first | (with_reducible first | exact HB.out | apply below_alloc | apply pw_below_drewN | apply below_drew1) | exact HB.out)⟩⟩
 }
 }
 {
 rw [if_neg c16] at H
 exact absurd H (by simp)
 }
 }
 {
 rw [if_neg c15] at H
 exact absurd H (by simp)
 }
 }
 {
 rw [if_neg c14] at H
 exact absurd H (by simp)
 }
 }
 {
 rw [if_neg c13] at H
 have c13b0 : decide (x9_3 < (((rd_T35 t195 x6_1).f1).length : Int)) = false := decide_eq_false c13
 clear c13
 by_cases c19 : x8_3 > 0
 {
 rw [if_pos c19] at H
 have c19b0 : decide (0 < x8_3) = true := decide_eq_true c19
 clear c19
 by_cases c20 : x8_3 < (((rd_T35 t195 x6_1).f1).length : Int)
 {
 rw [if_pos c20] at H
 have c20b0 : decide (x8_3 < (((rd_T35 t195 x6_1).f1).length : Int)) = true := decide_eq_true c20
 clear c20
 by_cases c21 : 0 ≤ x7_2
 {
 rw [if_pos c21] at H
 have c21b0 : decide (0 ≤ x7_2) = true := decide_eq_true c21
 clear c21
 by_cases c22 : x7_2 < (t195.length : Int)
 {
 rw [if_pos c22] at H
 have c22b0 : decide (x7_2 < (t195.length : Int)) = true := decide_eq_true c22
 clear c22
 by_cases c23 : x8_3 < (((rd_T35 t195 x7_2).f1).length : Int)
 {
 rw [if_pos c23] at H
 exact absurd H (by simp)
 }
 {
 rw [if_neg c23] at H
 have c23b0 : decide (x8_3 < (((rd_T35 t195 x7_2).f1).length : Int)) = false := decide_eq_false c23
 clear c23
 have H' := Aside0.mk H
 clear H
 have p199 : 0 ≤ (x6_1 : Int) := of_decide_eq_true (by first | (with_reducible assumption) | assumption)
 have q199 : x6_1 < (t195.length : Int) := of_decide_eq_true (by first | (with_reducible assumption) | assumption)
 obtain ⟨ad199, A199_1, c199_1, e199, hx199_0, hx199_1, hl199_1, hi199_1⟩ := at_T35 (Kd.S_reads' HO_5.out).2.2 x6_1 p199 q199
 cases e199
 obtain ⟨ce199, hce199, hMe199, hcc199⟩ := Kd.S_get HO_5.out z35 x6_1 p199 (by first | exact q199 | exact of_decide_eq_true (by first | (with_reducible assumption) | assumption) | (have e_ := (Kd.S_reads' HO_5.out).1; omega))
 obtain ⟨ve199_1, rfl, ge199_1⟩ := k35_openM hMe199
 have hv199_1 := hcc199 1 _ rfl
 rw [add_field _ _ 1 (by omega)] at hv199_1
 replace hv199_1 := Option.some.inj (hv199_1.symm.trans hx199_1)
 rw [hv199_1] at ge199_1
 have HL199_1 := Aside0.mk (show Kd.R (Kd.int .i64) 3 _ _ _ _ ((rd_T35 t195 x6_1).f1) from ge199_1)
 clear hv199_1 ge199_1
 clear hcc199 hce199
 have HR199_1 := Aside0.mk hi199_1
 have HC199_1 := Aside0.mk hl199_1
 clear hi199_1 hl199_1
 replace p199 := eq_true p199
 replace q199 := eq_true q199
 have p204 : 0 ≤ (x6_1 : Int) := of_decide_eq_true (by first | (with_reducible assumption) | assumption)
 have q204 : x6_1 < (t195.length : Int) := of_decide_eq_true (by first | (with_reducible assumption) | assumption)
 obtain ⟨ad204, A204_1, c204_1, e204, hx204_0, hx204_1, hl204_1, hi204_1⟩ := at_T35 (Kd.S_reads' HO_5.out).2.2 x6_1 p204 q204
 obtain rfl : ad199 = ad204 := (by injection e204)
 obtain ⟨ce204, hce204, hMe204, hcc204⟩ := Kd.S_get HO_5.out z35 x6_1 p204 (by first | exact q204 | exact of_decide_eq_true (by first | (with_reducible assumption) | assumption) | (have e_ := (Kd.S_reads' HO_5.out).1; omega))
 obtain ⟨ve204_1, rfl, ge204_1⟩ := k35_openM hMe204
 have hv204_1 := hcc204 1 _ rfl
 rw [add_field _ _ 1 (by omega)] at hv204_1
 replace hv204_1 := Option.some.inj (hv204_1.symm.trans hx204_1)
 rw [hv204_1] at ge204_1
 have HL204_1 := Aside0.mk (show Kd.R (Kd.int .i64) 3 _ _ _ _ ((rd_T35 t195 x6_1).f1) from ge204_1)
 clear hv204_1 ge204_1
 clear hcc204 hce204
 have HR204_1 := Aside0.mk hi204_1
 have HC204_1 := Aside0.mk hl204_1
 clear hi204_1 hl204_1
 replace p204 := eq_true p204
 replace q204 := eq_true q204
 have ea_ := Option.some.inj (hx199_1.symm.trans hx204_1)
 injection ea_ with ea_ en_ ec_
 subst ea_
 subst ec_
 clear en_
 have p205 : 0 ≤ (x7_2 : Int) := of_decide_eq_true (by first | (with_reducible assumption) | assumption)
 have q205 : x7_2 < (t195.length : Int) := of_decide_eq_true (by first | (with_reducible assumption) | assumption)
 obtain ⟨ad205, A205_1, c205_1, e205, hx205_0, hx205_1, hl205_1, hi205_1⟩ := at_T35 (Kd.S_reads' HO_5.out).2.2 x7_2 p205 q205
 obtain rfl : ad199 = ad205 := (by injection e205)
 obtain ⟨ce205, hce205, hMe205, hcc205⟩ := Kd.S_get HO_5.out z35 x7_2 p205 (by first | exact q205 | exact of_decide_eq_true (by first | (with_reducible assumption) | assumption) | (have e_ := (Kd.S_reads' HO_5.out).1; omega))
 obtain ⟨ve205_1, rfl, ge205_1⟩ := k35_openM hMe205
 have hv205_1 := hcc205 1 _ rfl
 rw [add_field _ _ 1 (by omega)] at hv205_1
 replace hv205_1 := Option.some.inj (hv205_1.symm.trans hx205_1)
 rw [hv205_1] at ge205_1
 have HL205_1 := Aside0.mk (show Kd.R (Kd.int .i64) 3 _ _ _ _ ((rd_T35 t195 x7_2).f1) from ge205_1)
 clear hv205_1 ge205_1
 clear hcc205 hce205
 have HR205_1 := Aside0.mk hi205_1
 have HC205_1 := Aside0.mk hl205_1
 clear hi205_1 hl205_1
 replace p205 := eq_true p205
 replace q205 := eq_true q205
 go_wp2
 repeat (go_quiet (fail); try go_wp2)
 go_roundg k3
 case measure => have := HK1.out; have := HK2.out; have := HK3.out; omega
 case rel => exact ⟨(wrap64 (x7_2 + 1)), (by first | rfl | (simp; done) | (simp [*]; done)), H', ⟨by have := HK1.out; have := HK2.out; have := HK3.out; omega⟩, ⟨by (with_reducible repeat (first | apply Kd.S_alloc | apply Kd.S_drewN | apply Kd.S_drew)); exact HO_5.out⟩, ⟨by repeat (first | (with_reducible first | exact HB.out | apply below_alloc | apply pw_below_drewN | apply below_drew1) | exact HB.out)⟩⟩
 }
 }
 {
 rw [if_neg c22] at H
 exact absurd H (by simp)
 }
 }
 {
 rw [if_neg c21] at H
 exact absurd H (by simp)
 }
 }
 {
 rw [if_neg c20] at H
 have c20b0 : decide (x8_3 < (((rd_T35 t195 x6_1).f1).length : Int)) = false := decide_eq_false c20
 clear c20
 have H' := Aside0.mk H
 clear H
 have p199 : 0 ≤ (x6_1 : Int) := of_decide_eq_true (by first | (with_reducible assumption) | assumption)
 have q199 : x6_1 < (t195.length : Int) := of_decide_eq_true (by first | (with_reducible assumption) | assumption)
 obtain ⟨ad199, A199_1, c199_1, e199, hx199_0, hx199_1, hl199_1, hi199_1⟩ := at_T35 (Kd.S_reads' HO_5.out).2.2 x6_1 p199 q199
 cases e199
 obtain ⟨ce199, hce199, hMe199, hcc199⟩ := Kd.S_get HO_5.out z35 x6_1 p199 (by first | exact q199 | exact of_decide_eq_true (by first | (with_reducible assumption) | assumption) | (have e_ := (Kd.S_reads' HO_5.out).1; omega))
 obtain ⟨ve199_1, rfl, ge199_1⟩ := k35_openM hMe199
 have hv199_1 := hcc199 1 _ rfl
 rw [add_field _ _ 1 (by omega)] at hv199_1
 replace hv199_1 := Option.some.inj (hv199_1.symm.trans hx199_1)
 rw [hv199_1] at ge199_1
 have HL199_1 := Aside0.mk (show Kd.R (Kd.int .i64) 3 _ _ _ _ ((rd_T35 t195 x6_1).f1) from ge199_1)
 clear hv199_1 ge199_1
 clear hcc199 hce199
 have HR199_1 := Aside0.mk hi199_1
 have HC199_1 := Aside0.mk hl199_1
 clear hi199_1 hl199_1
 replace p199 := eq_true p199
 replace q199 := eq_true q199
 have p204 : 0 ≤ (x6_1 : Int) := of_decide_eq_true (by first | (with_reducible assumption) | assumption)
 have q204 : x6_1 < (t195.length : Int) := of_decide_eq_true (by first | (with_reducible assumption) | assumption)
 obtain ⟨ad204, A204_1, c204_1, e204, hx204_0, hx204_1, hl204_1, hi204_1⟩ := at_T35 (Kd.S_reads' HO_5.out).2.2 x6_1 p204 q204
 obtain rfl : ad199 = ad204 := (by injection e204)
 obtain ⟨ce204, hce204, hMe204, hcc204⟩ := Kd.S_get HO_5.out z35 x6_1 p204 (by first | exact q204 | exact of_decide_eq_true (by first | (with_reducible assumption) | assumption) | (have e_ := (Kd.S_reads' HO_5.out).1; omega))
 obtain ⟨ve204_1, rfl, ge204_1⟩ := k35_openM hMe204
 have hv204_1 := hcc204 1 _ rfl
 rw [add_field _ _ 1 (by omega)] at hv204_1
 replace hv204_1 := Option.some.inj (hv204_1.symm.trans hx204_1)
 rw [hv204_1] at ge204_1
 have HL204_1 := Aside0.mk (show Kd.R (Kd.int .i64) 3 _ _ _ _ ((rd_T35 t195 x6_1).f1) from ge204_1)
 clear hv204_1 ge204_1
 clear hcc204 hce204
 have HR204_1 := Aside0.mk hi204_1
 have HC204_1 := Aside0.mk hl204_1
 clear hi204_1 hl204_1
 replace p204 := eq_true p204
 replace q204 := eq_true q204
 have ea_ := Option.some.inj (hx199_1.symm.trans hx204_1)
 injection ea_ with ea_ en_ ec_
 subst ea_
 subst ec_
 clear en_
 go_wp2
 repeat (go_quiet (fail); try go_wp2)
 go_roundg k3
 case measure => have := HK1.out; have := HK2.out; have := HK3.out; omega
 case rel => exact ⟨(wrap64 (x7_2 + 1)), (by first | rfl | (simp; done) | (simp [*]; done)), H', ⟨by have := HK1.out; have := HK2.out; have := HK3.out; omega⟩, ⟨by (with_reducible repeat (first | apply Kd.S_alloc | apply Kd.S_drewN | apply Kd.S_drew)); exact HO_5.out⟩, ⟨by repeat (first | (with_reducible first | exact HB.out | apply below_alloc | apply pw_below_drewN | apply below_drew1) | exact HB.out)⟩⟩
 }
 }
 {
 rw [if_neg c19] at H
 have c19b0 : decide (0 < x8_3) = false := decide_eq_false c19
 clear c19
 have H' := Aside0.mk H
 clear H
 have p199 : 0 ≤ (x6_1 : Int) := of_decide_eq_true (by first | (with_reducible assumption) | assumption)
 have q199 : x6_1 < (t195.length : Int) := of_decide_eq_true (by first | (with_reducible assumption) | assumption)
 obtain ⟨ad199, A199_1, c199_1, e199, hx199_0, hx199_1, hl199_1, hi199_1⟩ := at_T35 (Kd.S_reads' HO_5.out).2.2 x6_1 p199 q199
 cases e199
 obtain ⟨ce199, hce199, hMe199, hcc199⟩ := Kd.S_get HO_5.out z35 x6_1 p199 (by first | exact q199 | exact of_decide_eq_true (by first | (with_reducible assumption) | assumption) | (have e_ := (Kd.S_reads' HO_5.out).1; omega))
 obtain ⟨ve199_1, rfl, ge199_1⟩ := k35_openM hMe199
 have hv199_1 := hcc199 1 _ rfl
 rw [add_field _ _ 1 (by omega)] at hv199_1
 replace hv199_1 := Option.some.inj (hv199_1.symm.trans hx199_1)
 rw [hv199_1] at ge199_1
 have HL199_1 := Aside0.mk (show Kd.R (Kd.int .i64) 3 _ _ _ _ ((rd_T35 t195 x6_1).f1) from ge199_1)
 clear hv199_1 ge199_1
 clear hcc199 hce199
 have HR199_1 := Aside0.mk hi199_1
 have HC199_1 := Aside0.mk hl199_1
 clear hi199_1 hl199_1
 replace p199 := eq_true p199
 replace q199 := eq_true q199
 go_wp2
 repeat (go_quiet (fail); try go_wp2)
 go_roundg k3
 case measure => have := HK1.out; have := HK2.out; have := HK3.out; omega
 case rel => exact ⟨(wrap64 (x7_2 + 1)), (by first | rfl | (simp; done) | (simp [*]; done)), H', ⟨by have := HK1.out; have := HK2.out; have := HK3.out; omega⟩, ⟨by (with_reducible repeat (first | apply Kd.S_alloc | apply Kd.S_drewN | apply Kd.S_drew)); exact HO_5.out⟩, ⟨by repeat (first | (with_reducible first | exact HB.out | apply below_alloc | apply pw_below_drewN | apply below_drew1) | exact HB.out)⟩⟩
 }
 }
 }
 {
 rw [if_neg c12] at H
 exact absurd H (by simp)
 }
 }
 {
 rw [if_neg c11] at H
 exact absurd H (by simp)
 }
 )
 )
 }
 {
 rw [if_neg c10] at H
 have c10b0 : decide (x7_2 < x6_1) = false := decide_eq_false c10
 clear c10
 have H' := Aside0.mk H
 clear H
 go_wp2
 repeat (go_quiet (fail); try go_wp2)
 go_roundg k2
 case measure => have := HK1.out; have := HK2.out; omega
 case rel => exact ⟨(wrap64 (x6_1 + 1)), (by first | rfl | (simp; done) | (simp [*]; done)), H', ⟨by have := HK1.out; have := HK2.out; omega⟩, ⟨by (with_reducible repeat (first | apply Kd.S_alloc | apply Kd.S_drewN | apply Kd.S_drew)); exact HO_5.out⟩, ⟨by repeat (first | (with_reducible first | exact HB.out | apply below_alloc | apply pw_below_drewN | apply below_drew1) | exact HB.out)⟩⟩
 }
 )
 )
 }
 {
 rw [if_neg c8] at H
 have c8b0 : decide (x6_1 < (t195.length : Int)) = false := decide_eq_false c8
 clear c8
 replace H := Option.bind_eq_some_iff.mp H
 obtain ⟨t198, A240, H⟩ := H
 replace H : (some t198) = some r := H
 have A24 := Aside0.mk A240
 clear A240
 obtain rfl := Option.some.inj H
 obtain ⟨Ao25, co25, eo25⟩ := Kd.S_slice HO_5.out
 subst eo25
 go_wp2_with (first | (go_at_call 14; (with_reducible refine (interlocklaw12_known.calls k1  t198 _ ?side1 A24.out).mono ?_); (case side1 => exact It.TabOk.below HT.out (by repeat (first | (with_reducible first | exact HB.out | apply below_alloc | apply pw_below_drewN | apply below_drew1) | exact HB.out))); rintro e w26 ⟨rfl, hb⟩; have n0_ := Aside0.mk (Kd.S_below (by (with_reducible repeat (first | apply Kd.S_alloc | apply Kd.S_drewN | apply Kd.S_drew)); exact HO_5.out) hb); have n1_ := Aside0.mk (below_step (by repeat (first | (with_reducible first | exact HB.out | apply below_alloc | apply pw_below_drewN | apply below_drew1) | exact HB.out)) hb); clear HO_5; clear HB; have HO_5 := n0_; have HB := n1_; clear n0_ n1_; (try clear hb); (try clear hb2); (try clear hk); (try clear hi)))
 repeat (go_quiet (first | (go_at_call 14; (with_reducible refine (interlocklaw12_known.calls k1  t198 _ ?side1 A24.out).mono ?_); (case side1 => exact It.TabOk.below HT.out (by repeat (first | (with_reducible first | exact HB.out | apply below_alloc | apply pw_below_drewN | apply below_drew1) | exact HB.out))); rintro e w26 ⟨rfl, hb⟩; have n0_ := Aside0.mk (Kd.S_below (by (with_reducible repeat (first | apply Kd.S_alloc | apply Kd.S_drewN | apply Kd.S_drew)); exact HO_5.out) hb); have n1_ := Aside0.mk (below_step (by repeat (first | (with_reducible first | exact HB.out | apply below_alloc | apply pw_below_drewN | apply below_drew1) | exact HB.out)) hb); clear HO_5; clear HB; have HO_5 := n0_; have HB := n1_; clear n0_ n1_; (try clear hb); (try clear hb2); (try clear hk); (try clear hi))); try go_wp2_with (first | (go_at_call 14; (with_reducible refine (interlocklaw12_known.calls k1  t198 _ ?side1 A24.out).mono ?_); (case side1 => exact It.TabOk.below HT.out (by repeat (first | (with_reducible first | exact HB.out | apply below_alloc | apply pw_below_drewN | apply below_drew1) | exact HB.out))); rintro e w26 ⟨rfl, hb⟩; have n0_ := Aside0.mk (Kd.S_below (by (with_reducible repeat (first | apply Kd.S_alloc | apply Kd.S_drewN | apply Kd.S_drew)); exact HO_5.out) hb); have n1_ := Aside0.mk (below_step (by repeat (first | (with_reducible first | exact HB.out | apply below_alloc | apply pw_below_drewN | apply below_drew1) | exact HB.out)) hb); clear HO_5; clear HB; have HO_5 := n0_; have HB := n1_; clear n0_ n1_; (try clear hb); (try clear hb2); (try clear hk); (try clear hi))))
 go_ret
 exact ⟨by first | rfl | (simp [errW_none, errW_some] <;> rfl) | (simp [*, errW_none, errW_some] <;> rfl), by repeat (first | (with_reducible first | exact HB.out | apply below_alloc | apply pw_below_drewN | apply below_drew1) | exact HB.out)⟩
 }
 )
 )
end Go.Proofs.YtbnkeddnibjncaaDoor.P
