-- written by this project's xprint.py (a turn of the kit's printer; its own texts among them)
import Derived.Test.YtfiemikganhgeaaPx0
import Derived.Test.YtfiemikganhgeaaPx3
import Derived.Test.YtfiemikganhgeaaPx4
namespace Go.Proofs.Ytfiemikganhgeaa.P
open Go.RowKit Go.Proofs.YtfiemikganhgeaaW.PrintWords Go.Proofs.YtfiemikganhgeaaW.PrintLast Go.Proofs.YtfiemikganhgeaaW.PrintMore
attribute [local go_sem] max2_int min2_int max_two min_two max_three min_three max_four min_four   -- for this text's walks alone
attribute [local irreducible] Calls
set_option linter.unusedVariables false
set_option linter.unusedSimpArgs false

/-! ### interlocklaw13_FlowNone: function 3 -/
mutual
def interlocklaw13_FlowNone.j0 : Nat → Int → List Int → List Int → List Int → Int → Bool → Bool → Option (Bool)
  | 0, _, _, _, _, _, _, _ => none
  | k + 1, x0, x1, x2, x3, x4, x5, x32 => if x32 = true then ((interlocklaw13_known.f k).bind fun t156 => (some t156)) else ((interlocklaw10_Graph.f k x0 x1).bind fun t157 => ((flow_Solve.f k t157 ([] : List Int) x3 0 false x5).bind fun bt160 => ((flow_Solve.f k t157 x2 x3 x4 false x5).bind fun bt166 => (if (bt160.1.length : Int) = (t157.length : Int) then (if (bt160.2.length : Int) = (t157.length : Int) then (if (bt166.1.length : Int) = (t157.length : Int) then (interlocklaw13_FlowNone.j1 k x2 x4 t157 bt160.1 bt160.2 bt166.1 bt166.2 ((bt166.2.length : Int) != (t157.length : Int))) else (interlocklaw13_FlowNone.j1 k x2 x4 t157 bt160.1 bt160.2 bt166.1 bt166.2 true)) else (interlocklaw13_FlowNone.j1 k x2 x4 t157 bt160.1 bt160.2 bt166.1 bt166.2 true)) else (interlocklaw13_FlowNone.j1 k x2 x4 t157 bt160.1 bt160.2 bt166.1 bt166.2 true)))))
def interlocklaw13_FlowNone.j1 : Nat → List Int → Int → List (List Int) → List Int → List Int → List Int → List Int → Bool → Option (Bool)
  | 0, _, _, _, _, _, _, _, _ => none
  | k + 1, x2, x4, x13, x14, x15, x16, x17, x80 => if x80 = true then (none) else (interlocklaw13_FlowNone.l0 k x2 x13 x14 x15 x16 x17 x4 0)
def interlocklaw13_FlowNone.l0 : Nat → List Int → List (List Int) → List Int → List Int → List Int → List Int → Int → Int → Option (Bool)
  | 0, _, _, _, _, _, _, _, _ => none
  | k + 1, x2, x13, x14, x15, x16, x17, x18, x19 => if x19 < (x2.length : Int) then (if 0 ≤ x19 then (interlocklaw13_FlowNone.l0 k x2 x13 x14 x15 x16 x17 (Go.bits .or .u64 x18 (rd x2 x19)) (wrap64 (x19 + 1))) else (none)) else (interlocklaw13_FlowNone.l1 k x13 x14 x15 x16 x17 x18 0)
def interlocklaw13_FlowNone.l1 : Nat → List (List Int) → List Int → List Int → List Int → List Int → Int → Int → Option (Bool)
  | 0, _, _, _, _, _, _, _ => none
  | k + 1, x13, x14, x15, x16, x17, x18, x20 => if x20 < (x13.length : Int) then (if 0 ≤ x20 then (if x20 < (x14.length : Int) then (if (rd x14 x20) = 0 then (if x20 < (x15.length : Int) then (if (rd x15 x20) = 0 then (if x20 < (x16.length : Int) then (if (Go.bits .andNot .u64 (rd x16 x20) x18) = 0 then (if x20 < (x17.length : Int) then (if (Go.bits .andNot .u64 (rd x17 x20) x18) = 0 then (interlocklaw13_FlowNone.l1 k x13 x14 x15 x16 x17 x18 (wrap64 (x20 + 1))) else (none)) else (none)) else (none)) else (none)) else (none)) else (none)) else (none)) else (none)) else (none)) else (some true)
end
def interlocklaw13_FlowNone.f (k : Nat) (a0 : Int) (l1 : List Int) (l2 : List Int) (l3 : List Int) (a4 : Int) (a5 : Bool) : Option (Bool) := if (l2.length : Int) > 70 then (interlocklaw13_FlowNone.j0 k a0 l1 l2 l3 a4 a5 true) else (if (l3.length : Int) > 70 then (interlocklaw13_FlowNone.j0 k a0 l1 l2 l3 a4 a5 true) else ((interlocklaw13_known.f k).bind fun t155 => (interlocklaw13_FlowNone.j0 k a0 l1 l2 l3 a4 a5 (!t155))))
theorem interlocklaw13_FlowNone.mono_l : ∀ k, (∀ y0 y1 y2 y3 y4 y5 y6, LeO (interlocklaw13_FlowNone.j0 k y0 y1 y2 y3 y4 y5 y6) (interlocklaw13_FlowNone.j0 (k + 1) y0 y1 y2 y3 y4 y5 y6)) ∧ (∀ y0 y1 y2 y3 y4 y5 y6 y7, LeO (interlocklaw13_FlowNone.j1 k y0 y1 y2 y3 y4 y5 y6 y7) (interlocklaw13_FlowNone.j1 (k + 1) y0 y1 y2 y3 y4 y5 y6 y7)) ∧ (∀ y0 y1 y2 y3 y4 y5 y6 y7, LeO (interlocklaw13_FlowNone.l0 k y0 y1 y2 y3 y4 y5 y6 y7) (interlocklaw13_FlowNone.l0 (k + 1) y0 y1 y2 y3 y4 y5 y6 y7)) ∧ (∀ y0 y1 y2 y3 y4 y5 y6, LeO (interlocklaw13_FlowNone.l1 k y0 y1 y2 y3 y4 y5 y6) (interlocklaw13_FlowNone.l1 (k + 1) y0 y1 y2 y3 y4 y5 y6))
  | 0 => ⟨fun _ _ _ _ _ _ _ r h => by simp [interlocklaw13_FlowNone.j0] at h, fun _ _ _ _ _ _ _ _ r h => by simp [interlocklaw13_FlowNone.j1] at h, fun _ _ _ _ _ _ _ _ r h => by simp [interlocklaw13_FlowNone.l0] at h, fun _ _ _ _ _ _ _ r h => by simp [interlocklaw13_FlowNone.l1] at h⟩
  | k + 1 => by
    obtain ⟨ih0, ih1, ih2, ih3⟩ := interlocklaw13_FlowNone.mono_l k
    refine ⟨?_, ?_, ?_, ?_⟩
    · intro y0 y1 y2 y3 y4 y5 y6
      unfold interlocklaw13_FlowNone.j0
      repeat' first
      | (with_reducible exact ih0 _ _ _ _ _ _ _)
      | (with_reducible exact ih1 _ _ _ _ _ _ _ _)
      | (with_reducible exact ih2 _ _ _ _ _ _ _ _)
      | (with_reducible exact ih3 _ _ _ _ _ _ _)
      | (with_reducible exact flow_Solve.mono _ _ _ _ _ _ _)
      | (with_reducible exact interlocklaw10_Graph.mono _ _ _)
      | (with_reducible exact interlocklaw13_known.mono _)
      | (with_reducible exact LeO.refl _)
      | (with_reducible exact LeO.none _)
      | (with_reducible refine LeO.ite ?_ ?_)
      | (with_reducible refine LeO.bind ?_ (fun _ => ?_))
      | exact ih0 _ _ _ _ _ _ _
      | exact ih1 _ _ _ _ _ _ _ _
      | exact ih2 _ _ _ _ _ _ _ _
      | exact ih3 _ _ _ _ _ _ _
      | exact LeO.none _
      | refine LeO.ite ?_ ?_
      | refine LeO.bind ?_ (fun _ => ?_)
    · intro y0 y1 y2 y3 y4 y5 y6 y7
      unfold interlocklaw13_FlowNone.j1
      repeat' first
      | (with_reducible exact ih0 _ _ _ _ _ _ _)
      | (with_reducible exact ih1 _ _ _ _ _ _ _ _)
      | (with_reducible exact ih2 _ _ _ _ _ _ _ _)
      | (with_reducible exact ih3 _ _ _ _ _ _ _)
      | (with_reducible exact flow_Solve.mono _ _ _ _ _ _ _)
      | (with_reducible exact interlocklaw10_Graph.mono _ _ _)
      | (with_reducible exact interlocklaw13_known.mono _)
      | (with_reducible exact LeO.refl _)
      | (with_reducible exact LeO.none _)
      | (with_reducible refine LeO.ite ?_ ?_)
      | (with_reducible refine LeO.bind ?_ (fun _ => ?_))
      | exact ih0 _ _ _ _ _ _ _
      | exact ih1 _ _ _ _ _ _ _ _
      | exact ih2 _ _ _ _ _ _ _ _
      | exact ih3 _ _ _ _ _ _ _
      | exact LeO.none _
      | refine LeO.ite ?_ ?_
      | refine LeO.bind ?_ (fun _ => ?_)
    · intro y0 y1 y2 y3 y4 y5 y6 y7
      unfold interlocklaw13_FlowNone.l0
      repeat' first
      | (with_reducible exact ih0 _ _ _ _ _ _ _)
      | (with_reducible exact ih1 _ _ _ _ _ _ _ _)
      | (with_reducible exact ih2 _ _ _ _ _ _ _ _)
      | (with_reducible exact ih3 _ _ _ _ _ _ _)
      | (with_reducible exact flow_Solve.mono _ _ _ _ _ _ _)
      | (with_reducible exact interlocklaw10_Graph.mono _ _ _)
      | (with_reducible exact interlocklaw13_known.mono _)
      | (with_reducible exact LeO.refl _)
      | (with_reducible exact LeO.none _)
      | (with_reducible refine LeO.ite ?_ ?_)
      | (with_reducible refine LeO.bind ?_ (fun _ => ?_))
      | exact ih0 _ _ _ _ _ _ _
      | exact ih1 _ _ _ _ _ _ _ _
      | exact ih2 _ _ _ _ _ _ _ _
      | exact ih3 _ _ _ _ _ _ _
      | exact LeO.none _
      | refine LeO.ite ?_ ?_
      | refine LeO.bind ?_ (fun _ => ?_)
    · intro y0 y1 y2 y3 y4 y5 y6
      unfold interlocklaw13_FlowNone.l1
      repeat' first
      | (with_reducible exact ih0 _ _ _ _ _ _ _)
      | (with_reducible exact ih1 _ _ _ _ _ _ _ _)
      | (with_reducible exact ih2 _ _ _ _ _ _ _ _)
      | (with_reducible exact ih3 _ _ _ _ _ _ _)
      | (with_reducible exact flow_Solve.mono _ _ _ _ _ _ _)
      | (with_reducible exact interlocklaw10_Graph.mono _ _ _)
      | (with_reducible exact interlocklaw13_known.mono _)
      | (with_reducible exact LeO.refl _)
      | (with_reducible exact LeO.none _)
      | (with_reducible refine LeO.ite ?_ ?_)
      | (with_reducible refine LeO.bind ?_ (fun _ => ?_))
      | exact ih0 _ _ _ _ _ _ _
      | exact ih1 _ _ _ _ _ _ _ _
      | exact ih2 _ _ _ _ _ _ _ _
      | exact ih3 _ _ _ _ _ _ _
      | exact LeO.none _
      | refine LeO.ite ?_ ?_
      | refine LeO.bind ?_ (fun _ => ?_)
theorem interlocklaw13_FlowNone.mono : ∀ a0 a1 a2 a3 a4 a5 k, LeO (interlocklaw13_FlowNone.f k a0 a1 a2 a3 a4 a5) (interlocklaw13_FlowNone.f (k + 1) a0 a1 a2 a3 a4 a5) := by
  intro a0 a1 a2 a3 a4 a5 k
  obtain ⟨ih0, ih1, ih2, ih3⟩ := interlocklaw13_FlowNone.mono_l k
  unfold interlocklaw13_FlowNone.f
  repeat' first
      | (with_reducible exact ih0 _ _ _ _ _ _ _)
      | (with_reducible exact ih1 _ _ _ _ _ _ _ _)
      | (with_reducible exact ih2 _ _ _ _ _ _ _ _)
      | (with_reducible exact ih3 _ _ _ _ _ _ _)
      | (with_reducible exact flow_Solve.mono _ _ _ _ _ _ _)
      | (with_reducible exact interlocklaw10_Graph.mono _ _ _)
      | (with_reducible exact interlocklaw13_known.mono _)
      | (with_reducible exact LeO.refl _)
      | (with_reducible exact LeO.none _)
      | (with_reducible refine LeO.ite ?_ ?_)
      | (with_reducible refine LeO.bind ?_ (fun _ => ?_))
      | exact ih0 _ _ _ _ _ _ _
      | exact ih1 _ _ _ _ _ _ _ _
      | exact ih2 _ _ _ _ _ _ _ _
      | exact ih3 _ _ _ _ _ _ _
      | exact LeO.none _
      | refine LeO.ite ?_ ?_
      | refine LeO.bind ?_ (fun _ => ?_)
set_option maxHeartbeats 8000000 in
set_option maxRecDepth 100000 in
theorem interlocklaw13_FlowNone.calls (k : Nat) (a0 : Int) (A1 : Option Addr) (c1 : Nat) (l1 : List Int) (A2 : Option Addr) (c2 : Nat) (l2 : List Int) (A3 : Option Addr) (c3 : Nat) (l3 : List Int) (a4 : Int) (a5 : Bool) (r : Bool) (w : World) (hr1 : Kd.C (Kd.int .u8) w A1 l1.length l1) (hc1 : l1.length ≤ c1) (hr2 : Kd.C (Kd.int .u64) w A2 l2.length l2) (hc2 : l2.length ≤ c2) (hr3 : Kd.C (Kd.int .u64) w A3 l3.length l3) (hc3 : l3.length ≤ c3) (h : interlocklaw13_FlowNone.f k a0 l1 l2 l3 a4 a5 = some r) :
    Calls Try.prog 3 #[.int .u8 a0, .slice A1 l1.length c1, .slice A2 l2.length c2, .slice A3 l3.length c3, .int .u64 a4, .bool a5] w fun e w' => e = .returned (.bool r) ∧ Below w.heap.size w w' := by
 have hu31 := Try.underlying31
 have HR1 := Aside0.mk hr1
 have HC1 := Aside0.mk hc1
 clear hr1 hc1
 have HR2 := Aside0.mk hr2
 have HC2 := Aside0.mk hc2
 clear hr2 hc2
 have HR3 := Aside0.mk hr3
 have HC3 := Aside0.mk hc3
 clear hr3 hc3
 have HB := Aside0.mk (Below.refl w.heap.size w)
 have H : (if (l2.length : Int) > 70 then (interlocklaw13_FlowNone.j0 k a0 l1 l2 l3 a4 a5 true) else (if (l3.length : Int) > 70 then (interlocklaw13_FlowNone.j0 k a0 l1 l2 l3 a4 a5 true) else ((interlocklaw13_known.f k).bind fun t155 => (interlocklaw13_FlowNone.j0 k a0 l1 l2 l3 a4 a5 (!t155))))) = some r := h
 clear h
 have HC7 := Aside0.mk H
 clear H
 go_enter Try.func3, Try.ntmps3
 go_upto_region 1 with (fail)
 go_cut [32] (fun v32 wc => ∃ (kq : Nat) (x32_6 : Bool), v32 = .bool x32_6 ∧ Aside0 (interlocklaw13_FlowNone.j0 kq a0 l1 l2 l3 a4 a5 x32_6 = some r) ∧ Aside0 (kq ≤ k) ∧ Aside0 (Below w.heap.size w wc))
 case first => (
 have H := HC7.out
 clear HC7
 by_cases c8 : (l2.length : Int) > 70
 {
 rw [if_pos c8] at H
 have c8b0 : decide (70 < (l2.length : Int)) = true := decide_eq_true c8
 have c8b1 : decide (70 < l2.length) = true := decide_eq_true (by omega)
 clear c8
 (first | rw [c8b0] | (simp only [i64_w, i32_w]; rw [c8b0]) | skip)
 have H' := Aside0.mk H
 clear H
 go_wp2
 go_meet
 case rel => exact ⟨_, (true), (by first | rfl | (simp; done) | (simp [*]; done)), H', ⟨by first | omega | exact Nat.le_refl _⟩, ⟨by repeat (first | (with_reducible first | exact HB.out | apply below_alloc | apply pw_below_drewN | apply below_drew1) | exact HB.out)⟩⟩
 }
 {
 rw [if_neg c8] at H
 have c8b0 : decide (70 < (l2.length : Int)) = false := decide_eq_false c8
 have c8b1 : decide (70 < l2.length) = false := decide_eq_false (by omega)
 clear c8
 (first | rw [c8b0] | (simp only [i64_w, i32_w]; rw [c8b0]) | skip)
 by_cases c9 : (l3.length : Int) > 70
 {
 rw [if_pos c9] at H
 have c9b0 : decide (70 < (l3.length : Int)) = true := decide_eq_true c9
 have c9b1 : decide (70 < l3.length) = true := decide_eq_true (by omega)
 clear c9
 have H' := Aside0.mk H
 clear H
 go_wp2
 go_meet
 case rel => exact ⟨_, (true), (by first | rfl | (simp; done) | (simp [*]; done)), H', ⟨by first | omega | exact Nat.le_refl _⟩, ⟨by repeat (first | (with_reducible first | exact HB.out | apply below_alloc | apply pw_below_drewN | apply below_drew1) | exact HB.out)⟩⟩
 }
 {
 rw [if_neg c9] at H
 have c9b0 : decide (70 < (l3.length : Int)) = false := decide_eq_false c9
 have c9b1 : decide (70 < l3.length) = false := decide_eq_false (by omega)
 clear c9
 replace H := Option.bind_eq_some_iff.mp H
 obtain ⟨t155, A100, H⟩ := H
 replace H : (interlocklaw13_FlowNone.j0 k a0 l1 l2 l3 a4 a5 (!t155)) = some r := H
 have A10 := Aside0.mk A100
 clear A100
 have H' := Aside0.mk H
 clear H
 go_wp2_with (first | (go_at_call 8; (with_reducible refine (interlocklaw13_known.calls k  t155 _ A10.out).mono ?_); rintro e w11 ⟨rfl, hb⟩; have n0_ := Aside0.mk (below_step (by repeat (first | (with_reducible first | exact HB.out | apply below_alloc | apply pw_below_drewN | apply below_drew1) | exact HB.out)) hb); clear HB; have HB := n0_; clear n0_; (try clear hb); (try clear hb2); (try clear hk); (try clear hi)))
 go_meet
 case rel => exact ⟨_, (!t155), (by first | rfl | (simp; done) | (simp [*]; done)), H', ⟨by first | omega | exact Nat.le_refl _⟩, ⟨by repeat (first | (with_reducible first | exact HB.out | apply below_alloc | apply pw_below_drewN | apply below_drew1) | exact HB.out)⟩⟩
 }
 }
 )
 case rest => (
 clear HC7
 try clear c1
 try clear c2
 try clear p2
 try clear c3
 try clear c8
 try clear c8b0
 try clear c8b1
 try clear c9
 try clear c9b0
 try clear c9b1
 obtain ⟨kq, x32_6, rfl, HA, HJ6, HB⟩ := hcut
 cases kq with
 | zero => exact absurd HA.out (by simp [interlocklaw13_FlowNone.j0])
 | succ kj6 => (
 have H := HA.out
 clear HA
 simp only [interlocklaw13_FlowNone.j0] at H
 by_cases c12 : x32_6 = true
 {
 subst c12
 have H1 : ((interlocklaw13_known.f kj6).bind fun t156 => (some t156)) = some r := by rw [if_pos rfl] at H; exact H
 clear H
 have H := H1
 clear H1
 replace H := Option.bind_eq_some_iff.mp H
 obtain ⟨t156, A130, H⟩ := H
 replace H : (some t156) = some r := H
 have A13 := Aside0.mk A130
 clear A130
 obtain rfl := Option.some.inj H
 go_wp2_with (first | ((with_reducible refine gate_callee (f := 8) rfl ?_); refine goesL_ (some 33) rfl rfl Try.func8 (by kernel_rfl) rfl #[] rfl (by (try simp only [List.map_toArray, List.map_cons, List.map_nil]); first | done | rfl | (simp only [List.length_drop, List.length_take]; rfl)) ?_; (with_reducible refine (interlocklaw13_known.calls kj6  t156 _ A13.out).mono ?_); rintro e w14 ⟨rfl, hb⟩; refine ⟨_, rfl, ?_⟩; have n0_ := Aside0.mk (below_step (by repeat (first | (with_reducible first | exact HB.out | apply below_alloc | apply pw_below_drewN | apply below_drew1) | exact HB.out)) hb); clear HB; have HB := n0_; clear n0_; (try clear hb); (try clear hb2); (try clear hk); (try clear hi)))
 go_ret
 exact ⟨by first | rfl | (simp [errW_none, errW_some] <;> rfl) | (simp [*, errW_none, errW_some] <;> rfl), by repeat (first | (with_reducible first | exact HB.out | apply below_alloc | apply pw_below_drewN | apply below_drew1) | exact HB.out)⟩
 }
 {
 replace c12 := Bool.eq_false_iff.mpr c12
 subst c12
 have H1 : ((interlocklaw10_Graph.f kj6 a0 l1).bind fun t157 => ((flow_Solve.f kj6 t157 ([] : List Int) l3 0 false a5).bind fun bt160 => ((flow_Solve.f kj6 t157 l2 l3 a4 false a5).bind fun bt166 => (if (bt160.1.length : Int) = (t157.length : Int) then (if (bt160.2.length : Int) = (t157.length : Int) then (if (bt166.1.length : Int) = (t157.length : Int) then (interlocklaw13_FlowNone.j1 kj6 l2 a4 t157 bt160.1 bt160.2 bt166.1 bt166.2 ((bt166.2.length : Int) != (t157.length : Int))) else (interlocklaw13_FlowNone.j1 kj6 l2 a4 t157 bt160.1 bt160.2 bt166.1 bt166.2 true)) else (interlocklaw13_FlowNone.j1 kj6 l2 a4 t157 bt160.1 bt160.2 bt166.1 bt166.2 true)) else (interlocklaw13_FlowNone.j1 kj6 l2 a4 t157 bt160.1 bt160.2 bt166.1 bt166.2 true))))) = some r := by rw [if_neg (show ¬ (false = true) by decide)] at H; exact H
 clear H
 have H := H1
 clear H1
 replace H := Option.bind_eq_some_iff.mp H
 obtain ⟨t157, A150, H⟩ := H
 replace H : ((flow_Solve.f kj6 t157 ([] : List Int) l3 0 false a5).bind fun bt160 => ((flow_Solve.f kj6 t157 l2 l3 a4 false a5).bind fun bt166 => (if (bt160.1.length : Int) = (t157.length : Int) then (if (bt160.2.length : Int) = (t157.length : Int) then (if (bt166.1.length : Int) = (t157.length : Int) then (interlocklaw13_FlowNone.j1 kj6 l2 a4 t157 bt160.1 bt160.2 bt166.1 bt166.2 ((bt166.2.length : Int) != (t157.length : Int))) else (interlocklaw13_FlowNone.j1 kj6 l2 a4 t157 bt160.1 bt160.2 bt166.1 bt166.2 true)) else (interlocklaw13_FlowNone.j1 kj6 l2 a4 t157 bt160.1 bt160.2 bt166.1 bt166.2 true)) else (interlocklaw13_FlowNone.j1 kj6 l2 a4 t157 bt160.1 bt160.2 bt166.1 bt166.2 true)))) = some r := H
 have A15 := Aside0.mk A150
 clear A150
 replace H := Option.bind_eq_some_iff.mp H
 obtain ⟨⟨t160, t163⟩, A160, H⟩ := H
 replace H : ((flow_Solve.f kj6 t157 l2 l3 a4 false a5).bind fun bt166 => (if (t160.length : Int) = (t157.length : Int) then (if (t163.length : Int) = (t157.length : Int) then (if (bt166.1.length : Int) = (t157.length : Int) then (interlocklaw13_FlowNone.j1 kj6 l2 a4 t157 t160 t163 bt166.1 bt166.2 ((bt166.2.length : Int) != (t157.length : Int))) else (interlocklaw13_FlowNone.j1 kj6 l2 a4 t157 t160 t163 bt166.1 bt166.2 true)) else (interlocklaw13_FlowNone.j1 kj6 l2 a4 t157 t160 t163 bt166.1 bt166.2 true)) else (interlocklaw13_FlowNone.j1 kj6 l2 a4 t157 t160 t163 bt166.1 bt166.2 true))) = some r := H
 have A16 := Aside0.mk A160
 clear A160
 replace H := Option.bind_eq_some_iff.mp H
 obtain ⟨⟨t166, t169⟩, A170, H⟩ := H
 replace H : (if (t160.length : Int) = (t157.length : Int) then (if (t163.length : Int) = (t157.length : Int) then (if (t166.length : Int) = (t157.length : Int) then (interlocklaw13_FlowNone.j1 kj6 l2 a4 t157 t160 t163 t166 t169 ((t169.length : Int) != (t157.length : Int))) else (interlocklaw13_FlowNone.j1 kj6 l2 a4 t157 t160 t163 t166 t169 true)) else (interlocklaw13_FlowNone.j1 kj6 l2 a4 t157 t160 t163 t166 t169 true)) else (interlocklaw13_FlowNone.j1 kj6 l2 a4 t157 t160 t163 t166 t169 true)) = some r := H
 have A17 := Aside0.mk A170
 clear A170
 have HC18 := Aside0.mk H
 clear H
 go_upto_region 6 with (first | ((with_reducible refine gate_callee (f := 9) rfl ?_); refine goesL_ (some 36) rfl rfl Try.func9 (by kernel_rfl) rfl #[.int .u8 a0, .slice A1 l1.length c1] rfl (by (try simp only [List.map_toArray, List.map_cons, List.map_nil]); first | done | rfl | (simp only [List.length_drop, List.length_take]; rfl)) ?_; (with_reducible refine (interlocklaw10_Graph.calls kj6 a0 _ _ l1 t157 _ ?side1 ?side2 A15.out).mono ?_); (case side1 => repeat (first | exact (Kd.C_below HR1.out HB.out) | (with_reducible refine Kd.C_alloc ?_ _) | (with_reducible refine Kd.C_drewN ?_ _) | (with_reducible refine Kd.C_drew ?_))); (case side2 => exact HC1.out); rintro e w19 ⟨v158, rfl, ho0, hb⟩; refine ⟨_, rfl, ?_⟩; have n0_ := Aside0.mk (Kd.S_lower ho0 (below_size (by repeat (first | (with_reducible first | exact HB.out | apply below_alloc | apply pw_below_drewN | apply below_drew1) | exact HB.out)))); have n1_ := Aside0.mk (below_step (by repeat (first | (with_reducible first | exact HB.out | apply below_alloc | apply pw_below_drewN | apply below_drew1) | exact HB.out)) hb); clear HB; have HO159 := n0_; have HB := n1_; clear n0_ n1_; (try clear hb); (try clear hb2); (try clear hk); (try clear hi); (try clear ho0); obtain ⟨Ao20, co20, eo20⟩ := Kd.S_slice HO159.out; subst eo20) | ((with_reducible refine gate_callee (f := 10) rfl ?_); refine goesL_ (some 42) rfl rfl Try.func10 (by kernel_rfl) rfl #[.agg #[.slice Ao20 t157.length co20, .slice none 0 0, .slice A3 l3.length c3, .int .u64 0, .bool false, .bool a5]] rfl (by (try simp only [List.map_toArray, List.map_cons, List.map_nil]); first | done | rfl | (simp only [List.length_drop, List.length_take]; rfl)) ?_; (refine (flow_Solve.calls kj6 _ _ t157 _ _ ([] : List Int) _ _ l3 0 false a5 t160 t163 _ ?side1 ?side2 ?side3 ?side4 ?side5 ?side6 A16.out).mono ?_); (case side1 => repeat (first | exact (Kd.S_reads' HO159.out).2.2 | (with_reducible refine Kd.C_alloc ?_ _) | (with_reducible refine Kd.C_drewN ?_ _) | (with_reducible refine Kd.C_drew ?_))); (case side2 => exact (Kd.S_reads' HO159.out).2.1); (case side3 => exact Kd.C_nil _ _); (case side4 => exact Nat.le_refl _); (case side5 => repeat (first | exact (Kd.C_below HR3.out HB.out) | (with_reducible refine Kd.C_alloc ?_ _) | (with_reducible refine Kd.C_drewN ?_ _) | (with_reducible refine Kd.C_drew ?_))); (case side6 => exact HC3.out); rintro e w21 ⟨v161, v164, rfl, ho0, ho1, hb⟩; refine ⟨_, rfl, ?_⟩; have n0_ := Aside0.mk (Kd.S_below (by (with_reducible repeat (first | apply Kd.S_alloc | apply Kd.S_drewN | apply Kd.S_drew)); exact HO159.out) hb); have n1_ := Aside0.mk (Kd.R_lower ho0 (below_size (by repeat (first | (with_reducible first | exact HB.out | apply below_alloc | apply pw_below_drewN | apply below_drew1) | exact HB.out)))); have n2_ := Aside0.mk (Kd.R_lower ho1 (below_size (by repeat (first | (with_reducible first | exact HB.out | apply below_alloc | apply pw_below_drewN | apply below_drew1) | exact HB.out)))); have n3_ := Aside0.mk (below_step (by repeat (first | (with_reducible first | exact HB.out | apply below_alloc | apply pw_below_drewN | apply below_drew1) | exact HB.out)) hb); clear HO159; clear HB; have HO159 := n0_; have HO162 := n1_; have HO165 := n2_; have HB := n3_; clear n0_ n1_ n2_ n3_; (try clear hb); (try clear hb2); (try clear hk); (try clear hi); (try clear ho0); (try clear ho1)) | ((with_reducible refine gate_callee (f := 10) rfl ?_); refine goesL_ (some 52) rfl rfl Try.func10 (by kernel_rfl) rfl #[.agg #[.slice Ao20 t157.length co20, .slice A2 l2.length c2, .slice A3 l3.length c3, .int .u64 a4, .bool false, .bool a5]] rfl (by (try simp only [List.map_toArray, List.map_cons, List.map_nil]); first | done | rfl | (simp only [List.length_drop, List.length_take]; rfl)) ?_; (with_reducible refine (flow_Solve.calls kj6 _ _ t157 _ _ l2 _ _ l3 a4 false a5 t166 t169 _ ?side1 ?side2 ?side3 ?side4 ?side5 ?side6 A17.out).mono ?_); (case side1 => repeat (first | exact (Kd.S_reads' HO159.out).2.2 | (with_reducible refine Kd.C_alloc ?_ _) | (with_reducible refine Kd.C_drewN ?_ _) | (with_reducible refine Kd.C_drew ?_))); (case side2 => exact (Kd.S_reads' HO159.out).2.1); (case side3 => repeat (first | exact (Kd.C_below HR2.out HB.out) | (with_reducible refine Kd.C_alloc ?_ _) | (with_reducible refine Kd.C_drewN ?_ _) | (with_reducible refine Kd.C_drew ?_))); (case side4 => exact HC2.out); (case side5 => repeat (first | exact (Kd.C_below HR3.out HB.out) | (with_reducible refine Kd.C_alloc ?_ _) | (with_reducible refine Kd.C_drewN ?_ _) | (with_reducible refine Kd.C_drew ?_))); (case side6 => exact HC3.out); rintro e w22 ⟨v167, v170, rfl, ho0, ho1, hb⟩; refine ⟨_, rfl, ?_⟩; have n0_ := Aside0.mk (Kd.S_below (by (with_reducible repeat (first | apply Kd.S_alloc | apply Kd.S_drewN | apply Kd.S_drew)); exact HO159.out) hb); have n1_ := Aside0.mk (Kd.R_mono (Kd.R_told (Kd.R_told (Kd.R_old (by (with_reducible repeat (first | apply Kd.R_alloc | apply Kd.R_drewN | apply Kd.R_drew)); exact HO162.out) hb) (Kd.R_base ho0)) (Kd.R_base ho1)) (fun _ h_ => h_.1)); have n2_ := Aside0.mk (Kd.R_mono (Kd.R_told (Kd.R_told (Kd.R_old (by (with_reducible repeat (first | apply Kd.R_alloc | apply Kd.R_drewN | apply Kd.R_drew)); exact HO165.out) hb) (Kd.R_base ho0)) (Kd.R_base ho1)) (fun _ h_ => h_.1)); have n3_ := Aside0.mk (Kd.R_lower (Kd.R_new' (Kd.R_new' ho0 (Kd.R_lt (by (with_reducible repeat (first | apply Kd.R_alloc | apply Kd.R_drewN | apply Kd.R_drew)); exact HO162.out))) (Kd.R_lt (by (with_reducible repeat (first | apply Kd.R_alloc | apply Kd.R_drewN | apply Kd.R_drew)); exact HO165.out))) (below_size (by repeat (first | (with_reducible first | exact HB.out | apply below_alloc | apply pw_below_drewN | apply below_drew1) | exact HB.out)))); have n4_ := Aside0.mk (Kd.R_lower (Kd.R_new' (Kd.R_new' ho1 (Kd.R_lt (by (with_reducible repeat (first | apply Kd.R_alloc | apply Kd.R_drewN | apply Kd.R_drew)); exact HO162.out))) (Kd.R_lt (by (with_reducible repeat (first | apply Kd.R_alloc | apply Kd.R_drewN | apply Kd.R_drew)); exact HO165.out))) (below_size (by repeat (first | (with_reducible first | exact HB.out | apply below_alloc | apply pw_below_drewN | apply below_drew1) | exact HB.out)))); have n5_ := Aside0.mk (below_step (by repeat (first | (with_reducible first | exact HB.out | apply below_alloc | apply pw_below_drewN | apply below_drew1) | exact HB.out)) hb); clear HO159; clear HO162; clear HO165; clear HB; have HO159 := n0_; have HO162 := n1_; have HO165 := n2_; have HO168 := n3_; have HO171 := n4_; have HB := n5_; clear n0_ n1_ n2_ n3_ n4_ n5_; (try clear hb); (try clear hb2); (try clear hk); (try clear hi); (try clear ho0); (try clear ho1)))
 (try simp only [Act.put, sT_, sZ_, sS_])
 go_cut [80] (fun v80 wc => ∃ (kq : Nat) (x80_17 : Bool), v80 = .bool x80_17 ∧ Aside0 (interlocklaw13_FlowNone.j1 kq l2 a4 t157 t160 t163 t166 t169 x80_17 = some r) ∧ Aside0 (kq ≤ kj6) ∧ Aside0 (Kd.S (Kd.slice 3 (Kd.int .i64)) 33 wc w.heap.size (fun _ => True) (.slice Ao20 t157.length co20) t157) ∧ Aside0 (Kd.R (Kd.int .u64) 24 wc w.heap.size (fun k_ => some k_ ≠ (v164 : Value).ownBlock ∧ some k_ ≠ (v167 : Value).ownBlock ∧ some k_ ≠ (v170 : Value).ownBlock) v161 t160) ∧ Aside0 (Kd.R (Kd.int .u64) 24 wc w.heap.size (fun k_ => some k_ ≠ (v161 : Value).ownBlock ∧ some k_ ≠ (v167 : Value).ownBlock ∧ some k_ ≠ (v170 : Value).ownBlock) v164 t163) ∧ Aside0 (Kd.R (Kd.int .u64) 24 wc w.heap.size (fun k_ => some k_ ≠ (v161 : Value).ownBlock ∧ some k_ ≠ (v164 : Value).ownBlock ∧ some k_ ≠ (v170 : Value).ownBlock) v167 t166) ∧ Aside0 (Kd.R (Kd.int .u64) 24 wc w.heap.size (fun k_ => some k_ ≠ (v161 : Value).ownBlock ∧ some k_ ≠ (v164 : Value).ownBlock ∧ some k_ ≠ (v167 : Value).ownBlock) v170 t169) ∧ Aside0 (Below w.heap.size w wc))
 case first => (
 have H := HC18.out
 clear HC18
 by_cases c23 : (t160.length : Int) = (t157.length : Int)
 {
 rw [if_pos c23] at H
 have c23b0 : ((t160.length : Int) == (t157.length : Int)) = true := beq_iff_eq.mpr c23
 have c23b1 : ((t160.length : Int) != (t157.length : Int)) = false := bne_eq_false_iff_eq.mpr c23
 have c23b2 : (t160.length == t157.length) = true := by first | simpa using c23 | (simp at c23 ⊢; omega)
 clear c23
 (first | rw [c23b0] | (simp only [i64_w, i32_w]; rw [c23b0]) | skip)
 by_cases c24 : (t163.length : Int) = (t157.length : Int)
 {
 rw [if_pos c24] at H
 have c24b0 : ((t163.length : Int) == (t157.length : Int)) = true := beq_iff_eq.mpr c24
 have c24b1 : ((t163.length : Int) != (t157.length : Int)) = false := bne_eq_false_iff_eq.mpr c24
 have c24b2 : (t163.length == t157.length) = true := by first | simpa using c24 | (simp at c24 ⊢; omega)
 clear c24
 by_cases c25 : (t166.length : Int) = (t157.length : Int)
 {
 rw [if_pos c25] at H
 have c25b0 : ((t166.length : Int) == (t157.length : Int)) = true := beq_iff_eq.mpr c25
 have c25b1 : ((t166.length : Int) != (t157.length : Int)) = false := bne_eq_false_iff_eq.mpr c25
 have c25b2 : (t166.length == t157.length) = true := by first | simpa using c25 | (simp at c25 ⊢; omega)
 clear c25
 have H' := Aside0.mk H
 clear H
 obtain ⟨Ao26, co26, eo26⟩ := Kd.R_slice HO162.out
 subst eo26
 obtain ⟨Ao27, co27, eo27⟩ := Kd.R_slice HO165.out
 subst eo27
 obtain ⟨Ao28, co28, eo28⟩ := Kd.R_slice HO168.out
 subst eo28
 obtain ⟨Ao29, co29, eo29⟩ := Kd.R_slice HO171.out
 subst eo29
 go_wp2
 go_meet
 case rel => exact ⟨_, (((t169.length : Int) != (t157.length : Int))), (by first | rfl | (simp; done) | (simp [*]; done)), H', ⟨by have := HJ6.out; first | omega | exact Nat.le_refl _⟩, ⟨by (with_reducible repeat (first | apply Kd.S_alloc | apply Kd.S_drewN | apply Kd.S_drew)); exact HO159.out⟩, ⟨by (with_reducible repeat (first | apply Kd.R_alloc | apply Kd.R_drewN | apply Kd.R_drew)); exact Kd.R_mono HO162.out (fun _ hk => ⟨hk.1.1, ⟨hk.1.2, hk.2⟩⟩)⟩, ⟨by (with_reducible repeat (first | apply Kd.R_alloc | apply Kd.R_drewN | apply Kd.R_drew)); exact Kd.R_mono HO165.out (fun _ hk => ⟨hk.1.1, ⟨hk.1.2, hk.2⟩⟩)⟩, ⟨by (with_reducible repeat (first | apply Kd.R_alloc | apply Kd.R_drewN | apply Kd.R_drew)); exact Kd.R_mono HO168.out (fun _ hk => ⟨hk.1.2, ⟨hk.2, hk.1.1⟩⟩)⟩, ⟨by (with_reducible repeat (first | apply Kd.R_alloc | apply Kd.R_drewN | apply Kd.R_drew)); exact Kd.R_mono HO171.out (fun _ hk => ⟨hk.1.2, ⟨hk.2, hk.1.1⟩⟩)⟩, ⟨by repeat (first | (with_reducible first | exact HB.out | apply below_alloc | apply pw_below_drewN | apply below_drew1) | exact HB.out)⟩⟩
 }
 {
 rw [if_neg c25] at H
 have c25b0 : ((t166.length : Int) == (t157.length : Int)) = false := beq_eq_false_iff_ne.mpr c25
 have c25b1 : ((t166.length : Int) != (t157.length : Int)) = true := bne_iff_ne.mpr c25
 have c25b2 : (t166.length == t157.length) = false := by first | simpa using c25 | (simp at c25 ⊢; omega)
 have H' := Aside0.mk H
 clear H
 obtain ⟨Ao30, co30, eo30⟩ := Kd.R_slice HO162.out
 subst eo30
 obtain ⟨Ao31, co31, eo31⟩ := Kd.R_slice HO165.out
 subst eo31
 obtain ⟨Ao32, co32, eo32⟩ := Kd.R_slice HO168.out
 subst eo32
 go_wp2
 go_meet
 case rel => exact ⟨_, (true), (by first | rfl | (simp; done) | (simp [*]; done)), H', ⟨by have := HJ6.out; first | omega | exact Nat.le_refl _⟩, ⟨by (with_reducible repeat (first | apply Kd.S_alloc | apply Kd.S_drewN | apply Kd.S_drew)); exact HO159.out⟩, ⟨by (with_reducible repeat (first | apply Kd.R_alloc | apply Kd.R_drewN | apply Kd.R_drew)); exact Kd.R_mono HO162.out (fun _ hk => ⟨hk.1.1, ⟨hk.1.2, hk.2⟩⟩)⟩, ⟨by (with_reducible repeat (first | apply Kd.R_alloc | apply Kd.R_drewN | apply Kd.R_drew)); exact Kd.R_mono HO165.out (fun _ hk => ⟨hk.1.1, ⟨hk.1.2, hk.2⟩⟩)⟩, ⟨by (with_reducible repeat (first | apply Kd.R_alloc | apply Kd.R_drewN | apply Kd.R_drew)); exact Kd.R_mono HO168.out (fun _ hk => ⟨hk.1.2, ⟨hk.2, hk.1.1⟩⟩)⟩, ⟨by (with_reducible repeat (first | apply Kd.R_alloc | apply Kd.R_drewN | apply Kd.R_drew)); exact Kd.R_mono HO171.out (fun _ hk => ⟨hk.1.2, ⟨hk.2, hk.1.1⟩⟩)⟩, ⟨by repeat (first | (with_reducible first | exact HB.out | apply below_alloc | apply pw_below_drewN | apply below_drew1) | exact HB.out)⟩⟩
 }
 }
 {
 rw [if_neg c24] at H
 have c24b0 : ((t163.length : Int) == (t157.length : Int)) = false := beq_eq_false_iff_ne.mpr c24
 have c24b1 : ((t163.length : Int) != (t157.length : Int)) = true := bne_iff_ne.mpr c24
 have c24b2 : (t163.length == t157.length) = false := by first | simpa using c24 | (simp at c24 ⊢; omega)
 have H' := Aside0.mk H
 clear H
 obtain ⟨Ao33, co33, eo33⟩ := Kd.R_slice HO162.out
 subst eo33
 obtain ⟨Ao34, co34, eo34⟩ := Kd.R_slice HO165.out
 subst eo34
 go_wp2
 go_meet
 case rel => exact ⟨_, (true), (by first | rfl | (simp; done) | (simp [*]; done)), H', ⟨by have := HJ6.out; first | omega | exact Nat.le_refl _⟩, ⟨by (with_reducible repeat (first | apply Kd.S_alloc | apply Kd.S_drewN | apply Kd.S_drew)); exact HO159.out⟩, ⟨by (with_reducible repeat (first | apply Kd.R_alloc | apply Kd.R_drewN | apply Kd.R_drew)); exact Kd.R_mono HO162.out (fun _ hk => ⟨hk.1.1, ⟨hk.1.2, hk.2⟩⟩)⟩, ⟨by (with_reducible repeat (first | apply Kd.R_alloc | apply Kd.R_drewN | apply Kd.R_drew)); exact Kd.R_mono HO165.out (fun _ hk => ⟨hk.1.1, ⟨hk.1.2, hk.2⟩⟩)⟩, ⟨by (with_reducible repeat (first | apply Kd.R_alloc | apply Kd.R_drewN | apply Kd.R_drew)); exact Kd.R_mono HO168.out (fun _ hk => ⟨hk.1.2, ⟨hk.2, hk.1.1⟩⟩)⟩, ⟨by (with_reducible repeat (first | apply Kd.R_alloc | apply Kd.R_drewN | apply Kd.R_drew)); exact Kd.R_mono HO171.out (fun _ hk => ⟨hk.1.2, ⟨hk.2, hk.1.1⟩⟩)⟩, ⟨by repeat (first | (with_reducible first | exact HB.out | apply below_alloc | apply pw_below_drewN | apply below_drew1) | exact HB.out)⟩⟩
 }
 }
 {
 rw [if_neg c23] at H
 have c23b0 : ((t160.length : Int) == (t157.length : Int)) = false := beq_eq_false_iff_ne.mpr c23
 have c23b1 : ((t160.length : Int) != (t157.length : Int)) = true := bne_iff_ne.mpr c23
 have c23b2 : (t160.length == t157.length) = false := by first | simpa using c23 | (simp at c23 ⊢; omega)
 (first | rw [c23b0] | (simp only [i64_w, i32_w]; rw [c23b0]) | skip)
 have H' := Aside0.mk H
 clear H
 obtain ⟨Ao35, co35, eo35⟩ := Kd.R_slice HO162.out
 subst eo35
 go_wp2
 go_meet
 case rel => exact ⟨_, (true), (by first | rfl | (simp; done) | (simp [*]; done)), H', ⟨by have := HJ6.out; first | omega | exact Nat.le_refl _⟩, ⟨by (with_reducible repeat (first | apply Kd.S_alloc | apply Kd.S_drewN | apply Kd.S_drew)); exact HO159.out⟩, ⟨by (with_reducible repeat (first | apply Kd.R_alloc | apply Kd.R_drewN | apply Kd.R_drew)); exact Kd.R_mono HO162.out (fun _ hk => ⟨hk.1.1, ⟨hk.1.2, hk.2⟩⟩)⟩, ⟨by (with_reducible repeat (first | apply Kd.R_alloc | apply Kd.R_drewN | apply Kd.R_drew)); exact Kd.R_mono HO165.out (fun _ hk => ⟨hk.1.1, ⟨hk.1.2, hk.2⟩⟩)⟩, ⟨by (with_reducible repeat (first | apply Kd.R_alloc | apply Kd.R_drewN | apply Kd.R_drew)); exact Kd.R_mono HO168.out (fun _ hk => ⟨hk.1.2, ⟨hk.2, hk.1.1⟩⟩)⟩, ⟨by (with_reducible repeat (first | apply Kd.R_alloc | apply Kd.R_drewN | apply Kd.R_drew)); exact Kd.R_mono HO171.out (fun _ hk => ⟨hk.1.2, ⟨hk.2, hk.1.1⟩⟩)⟩, ⟨by repeat (first | (with_reducible first | exact HB.out | apply below_alloc | apply pw_below_drewN | apply below_drew1) | exact HB.out)⟩⟩
 }
 )
 case rest => (
 clear HC18
 try clear c1
 try clear c2
 try clear p2
 try clear c3
 try clear c8
 try clear c8b0
 try clear c8b1
 try clear c9
 try clear c9b0
 try clear c9b1
 try clear c10
 try clear c12
 try clear c23
 try clear c23b0
 try clear c23b1
 try clear c23b2
 try clear c24
 try clear c24b0
 try clear c24b1
 try clear c24b2
 try clear c25
 try clear c25b0
 try clear c25b1
 try clear c25b2
 try clear p2
 obtain ⟨kq, x80_17, rfl, HA, HJ17, HO_13, HO_14, HO_15, HO_16, HO_17, HB⟩ := hcut
 cases kq with
 | zero => exact absurd HA.out (by simp [interlocklaw13_FlowNone.j1])
 | succ kj17 => (
 have H := HA.out
 clear HA
 simp only [interlocklaw13_FlowNone.j1] at H
 by_cases c36 : x80_17 = true
 {
 subst c36
 have H1 : (none) = some r := by rw [if_pos rfl] at H; exact H
 clear H
 have H := H1
 clear H1
 exact absurd H (by simp)
 }
 {
 replace c36 := Bool.eq_false_iff.mpr c36
 subst c36
 have H1 : (interlocklaw13_FlowNone.l0 kj17 l2 t157 t160 t163 t166 t169 a4 0) = some r := by rw [if_neg (show ¬ (false = true) by decide)] at H; exact H
 clear H
 have H := H1
 clear H1
 have H' := Aside0.mk H
 clear H
 go_wp2
 go_loopg [18, 19] kj17 (fun kq v18 v19 w' => ∃ (x18_3 : Int) (x19_3 : Int), v18 = .int .u64 x18_3 ∧ v19 = .int .i64 x19_3 ∧ Aside0 (interlocklaw13_FlowNone.l0 kq l2 t157 t160 t163 t166 t169 x18_3 x19_3 = some r) ∧ Aside0 (kq ≤ kj17) ∧ Aside0 (Kd.S (Kd.slice 3 (Kd.int .i64)) 33 w' w.heap.size (fun _ => True) (.slice Ao20 t157.length co20) t157) ∧ Aside0 (Kd.R (Kd.int .u64) 24 w' w.heap.size (fun k_ => some k_ ≠ (v164 : Value).ownBlock ∧ some k_ ≠ (v167 : Value).ownBlock ∧ some k_ ≠ (v170 : Value).ownBlock) v161 t160) ∧ Aside0 (Kd.R (Kd.int .u64) 24 w' w.heap.size (fun k_ => some k_ ≠ (v161 : Value).ownBlock ∧ some k_ ≠ (v167 : Value).ownBlock ∧ some k_ ≠ (v170 : Value).ownBlock) v164 t163) ∧ Aside0 (Kd.R (Kd.int .u64) 24 w' w.heap.size (fun k_ => some k_ ≠ (v161 : Value).ownBlock ∧ some k_ ≠ (v164 : Value).ownBlock ∧ some k_ ≠ (v170 : Value).ownBlock) v167 t166) ∧ Aside0 (Kd.R (Kd.int .u64) 24 w' w.heap.size (fun k_ => some k_ ≠ (v161 : Value).ownBlock ∧ some k_ ≠ (v164 : Value).ownBlock ∧ some k_ ≠ (v167 : Value).ownBlock) v170 t169) ∧ Aside0 (Below w.heap.size w w'))
 case atStart => exact ⟨(a4), (0), (by first | rfl | (simp; done) | (simp [*]; done)), (by first | rfl | (simp; done) | (simp [*]; done)), H', ⟨Nat.le_refl _⟩, ⟨by (with_reducible repeat (first | apply Kd.S_alloc | apply Kd.S_drewN | apply Kd.S_drew)); exact HO_13.out⟩, ⟨by (with_reducible repeat (first | apply Kd.R_alloc | apply Kd.R_drewN | apply Kd.R_drew)); exact HO_14.out⟩, ⟨by (with_reducible repeat (first | apply Kd.R_alloc | apply Kd.R_drewN | apply Kd.R_drew)); exact HO_15.out⟩, ⟨by (with_reducible repeat (first | apply Kd.R_alloc | apply Kd.R_drewN | apply Kd.R_drew)); exact HO_16.out⟩, ⟨by (with_reducible repeat (first | apply Kd.R_alloc | apply Kd.R_drewN | apply Kd.R_drew)); exact HO_17.out⟩, ⟨by repeat (first | (with_reducible first | exact HB.out | apply below_alloc | apply pw_below_drewN | apply below_drew1) | exact HB.out)⟩⟩
 case round => (
 clear H'
 try clear c1
 try clear c2
 try clear p2
 try clear c3
 try clear c8
 try clear c8b0
 try clear c8b1
 try clear c9
 try clear c9b0
 try clear c9b1
 try clear c10
 try clear c12
 try clear c23
 try clear c23b0
 try clear c23b1
 try clear c23b2
 try clear c24
 try clear c24b0
 try clear c24b1
 try clear c24b2
 try clear c25
 try clear c25b0
 try clear c25b1
 try clear c25b2
 try clear c36
 try clear p2
 obtain ⟨x18_3, x19_3, rfl, rfl, HA, HK3, HO_13, HO_14, HO_15, HO_16, HO_17, HB⟩ := hrel
 cases gk with
 | zero => exact absurd HA.out (by simp [interlocklaw13_FlowNone.l0])
 | succ k3 => (
 have H := HA.out
 clear HA
 simp only [interlocklaw13_FlowNone.l0] at H
 by_cases c37 : x19_3 < (l2.length : Int)
 {
 rw [if_pos c37] at H
 have c37b0 : decide (x19_3 < (l2.length : Int)) = true := decide_eq_true c37
 clear c37
 by_cases c38 : 0 ≤ x19_3
 {
 rw [if_pos c38] at H
 have c38b0 : decide (0 ≤ x19_3) = true := decide_eq_true c38
 clear c38
 have H' := Aside0.mk H
 clear H
 have p172 : 0 ≤ (x19_3 : Int) := of_decide_eq_true (by first | (with_reducible assumption) | assumption)
 have q172 : x19_3 < (l2.length : Int) := of_decide_eq_true (by first | (with_reducible assumption) | assumption)
 obtain ⟨ad172, e172, hx172_0⟩ := Kd.at_int HR2.out x19_3 p172 q172
 cases e172
 replace hx172_0 := (HB.out.cell (World.block_lt_of_cell? w _ hx172_0)).trans hx172_0
 replace p172 := eq_true p172
 replace q172 := eq_true q172
 go_wp2
 go_roundg k3
 case measure => have := HJ6.out; have := HJ17.out; have := HK3.out; omega
 case rel => exact ⟨(Go.bits .or .u64 x18_3 (rd l2 x19_3)), (wrap64 (x19_3 + 1)), (by first | rfl | (simp; done) | (simp [*]; done)), (by first | rfl | (simp; done) | (simp [*]; done)), H', ⟨by have := HJ6.out; have := HJ17.out; have := HK3.out; omega⟩, ⟨by (with_reducible repeat (first | apply Kd.S_alloc | apply Kd.S_drewN | apply Kd.S_drew)); exact HO_13.out⟩, ⟨by (with_reducible repeat (first | apply Kd.R_alloc | apply Kd.R_drewN | apply Kd.R_drew)); exact HO_14.out⟩, ⟨by (with_reducible repeat (first | apply Kd.R_alloc | apply Kd.R_drewN | apply Kd.R_drew)); exact HO_15.out⟩, ⟨by (with_reducible repeat (first | apply Kd.R_alloc | apply Kd.R_drewN | apply Kd.R_drew)); exact HO_16.out⟩, ⟨by (with_reducible repeat (first | apply Kd.R_alloc | apply Kd.R_drewN | apply Kd.R_drew)); exact HO_17.out⟩, ⟨by repeat (first | (with_reducible first | exact HB.out | apply below_alloc | apply pw_below_drewN | apply below_drew1) | exact HB.out)⟩⟩
 }
 {
 rw [if_neg c38] at H
 exact absurd H (by simp)
 }
 }
 {
 rw [if_neg c37] at H
 have c37b0 : decide (x19_3 < (l2.length : Int)) = false := decide_eq_false c37
 clear c37
 have H' := Aside0.mk H
 clear H
 go_wp2
 go_loopg [20] k3 (fun kq v20 w' => ∃ (x20_4 : Int), v20 = .int .i64 x20_4 ∧ Aside0 (interlocklaw13_FlowNone.l1 kq t157 t160 t163 t166 t169 x18_3 x20_4 = some r) ∧ Aside0 (kq ≤ k3) ∧ Aside0 (Kd.S (Kd.slice 3 (Kd.int .i64)) 33 w' w.heap.size (fun _ => True) (.slice Ao20 t157.length co20) t157) ∧ Aside0 (Kd.R (Kd.int .u64) 24 w' w.heap.size (fun k_ => some k_ ≠ (v164 : Value).ownBlock ∧ some k_ ≠ (v167 : Value).ownBlock ∧ some k_ ≠ (v170 : Value).ownBlock) v161 t160) ∧ Aside0 (Kd.R (Kd.int .u64) 24 w' w.heap.size (fun k_ => some k_ ≠ (v161 : Value).ownBlock ∧ some k_ ≠ (v167 : Value).ownBlock ∧ some k_ ≠ (v170 : Value).ownBlock) v164 t163) ∧ Aside0 (Kd.R (Kd.int .u64) 24 w' w.heap.size (fun k_ => some k_ ≠ (v161 : Value).ownBlock ∧ some k_ ≠ (v164 : Value).ownBlock ∧ some k_ ≠ (v170 : Value).ownBlock) v167 t166) ∧ Aside0 (Kd.R (Kd.int .u64) 24 w' w.heap.size (fun k_ => some k_ ≠ (v161 : Value).ownBlock ∧ some k_ ≠ (v164 : Value).ownBlock ∧ some k_ ≠ (v167 : Value).ownBlock) v170 t169) ∧ Aside0 (Below w.heap.size w w'))
 case atStart => exact ⟨(0), (by first | rfl | (simp; done) | (simp [*]; done)), H', ⟨Nat.le_refl _⟩, ⟨by (with_reducible repeat (first | apply Kd.S_alloc | apply Kd.S_drewN | apply Kd.S_drew)); exact HO_13.out⟩, ⟨by (with_reducible repeat (first | apply Kd.R_alloc | apply Kd.R_drewN | apply Kd.R_drew)); exact HO_14.out⟩, ⟨by (with_reducible repeat (first | apply Kd.R_alloc | apply Kd.R_drewN | apply Kd.R_drew)); exact HO_15.out⟩, ⟨by (with_reducible repeat (first | apply Kd.R_alloc | apply Kd.R_drewN | apply Kd.R_drew)); exact HO_16.out⟩, ⟨by (with_reducible repeat (first | apply Kd.R_alloc | apply Kd.R_drewN | apply Kd.R_drew)); exact HO_17.out⟩, ⟨by repeat (first | (with_reducible first | exact HB.out | apply below_alloc | apply pw_below_drewN | apply below_drew1) | exact HB.out)⟩⟩
 case round => (
 clear H'
 try clear c1
 try clear p1
 try clear q1
 try clear hx1
 try clear c2
 try clear p2
 try clear c3
 try clear p6
 try clear c8
 try clear c8b0
 try clear c8b1
 try clear c9
 try clear c9b0
 try clear c9b1
 try clear c10
 try clear c12
 try clear p17
 try clear q17
 try clear hx17
 try clear c23
 try clear c23b0
 try clear c23b1
 try clear c23b2
 try clear c24
 try clear c24b0
 try clear c24b1
 try clear c24b2
 try clear c25
 try clear c25b0
 try clear c25b1
 try clear c25b2
 try clear c36
 try clear c37
 try clear c37b0
 try clear c38
 try clear c38b0
 try clear hx172_0
 try clear p172
 try clear p2
 try clear q172
 obtain ⟨x20_4, rfl, HA, HK4, HO_13, HO_14, HO_15, HO_16, HO_17, HB⟩ := hrel
 cases gk with
 | zero => exact absurd HA.out (by simp [interlocklaw13_FlowNone.l1])
 | succ k4 => (
 have H := HA.out
 clear HA
 simp only [interlocklaw13_FlowNone.l1] at H
 by_cases c39 : x20_4 < (t157.length : Int)
 {
 rw [if_pos c39] at H
 have c39b0 : decide (x20_4 < (t157.length : Int)) = true := decide_eq_true c39
 clear c39
 by_cases c40 : 0 ≤ x20_4
 {
 rw [if_pos c40] at H
 have c40b0 : decide (0 ≤ x20_4) = true := decide_eq_true c40
 clear c40
 by_cases c41 : x20_4 < (t160.length : Int)
 {
 rw [if_pos c41] at H
 have c41b0 : decide (x20_4 < (t160.length : Int)) = true := decide_eq_true c41
 clear c41
 by_cases c42 : (rd t160 x20_4) = 0
 {
 rw [if_pos c42] at H
 have c42b0 : ((rd t160 x20_4) == 0) = true := beq_iff_eq.mpr c42
 have c42b1 : ((rd t160 x20_4) != 0) = false := bne_eq_false_iff_eq.mpr c42
 clear c42
 by_cases c43 : x20_4 < (t163.length : Int)
 {
 rw [if_pos c43] at H
 have c43b0 : decide (x20_4 < (t163.length : Int)) = true := decide_eq_true c43
 clear c43
 by_cases c44 : (rd t163 x20_4) = 0
 {
 rw [if_pos c44] at H
 have c44b0 : ((rd t163 x20_4) == 0) = true := beq_iff_eq.mpr c44
 have c44b1 : ((rd t163 x20_4) != 0) = false := bne_eq_false_iff_eq.mpr c44
 clear c44
 by_cases c45 : x20_4 < (t166.length : Int)
 {
 rw [if_pos c45] at H
 have c45b0 : decide (x20_4 < (t166.length : Int)) = true := decide_eq_true c45
 clear c45
 by_cases c46 : (Go.bits .andNot .u64 (rd t166 x20_4) x18_3) = 0
 {
 rw [if_pos c46] at H
 have c46b0 : ((Go.bits .andNot .u64 (rd t166 x20_4) x18_3) == 0) = true := beq_iff_eq.mpr c46
 have c46b1 : ((Go.bits .andNot .u64 (rd t166 x20_4) x18_3) != 0) = false := bne_eq_false_iff_eq.mpr c46
 clear c46
 by_cases c47 : x20_4 < (t169.length : Int)
 {
 rw [if_pos c47] at H
 have c47b0 : decide (x20_4 < (t169.length : Int)) = true := decide_eq_true c47
 clear c47
 by_cases c48 : (Go.bits .andNot .u64 (rd t169 x20_4) x18_3) = 0
 {
 rw [if_pos c48] at H
 have c48b0 : ((Go.bits .andNot .u64 (rd t169 x20_4) x18_3) == 0) = true := beq_iff_eq.mpr c48
 have c48b1 : ((Go.bits .andNot .u64 (rd t169 x20_4) x18_3) != 0) = false := bne_eq_false_iff_eq.mpr c48
 clear c48
 have H' := Aside0.mk H
 clear H
 obtain ⟨Ao49, co49, eo49⟩ := Kd.R_slice HO_14.out
 subst eo49
 have p173 : 0 ≤ (x20_4 : Int) := of_decide_eq_true (by first | (with_reducible assumption) | assumption)
 have q173 : x20_4 < (t160.length : Int) := of_decide_eq_true (by first | (with_reducible assumption) | assumption)
 obtain ⟨ad173, e173, hx173_0⟩ := Kd.at_int (Kd.R_reads' HO_14.out).2.2 x20_4 p173 q173
 cases e173
 replace p173 := eq_true p173
 replace q173 := eq_true q173
 obtain ⟨Ao50, co50, eo50⟩ := Kd.R_slice HO_15.out
 subst eo50
 have p174 : 0 ≤ (x20_4 : Int) := of_decide_eq_true (by first | (with_reducible assumption) | assumption)
 have q174 : x20_4 < (t163.length : Int) := of_decide_eq_true (by first | (with_reducible assumption) | assumption)
 obtain ⟨ad174, e174, hx174_0⟩ := Kd.at_int (Kd.R_reads' HO_15.out).2.2 x20_4 p174 q174
 cases e174
 replace p174 := eq_true p174
 replace q174 := eq_true q174
 obtain ⟨Ao51, co51, eo51⟩ := Kd.R_slice HO_16.out
 subst eo51
 have p175 : 0 ≤ (x20_4 : Int) := of_decide_eq_true (by first | (with_reducible assumption) | assumption)
 have q175 : x20_4 < (t166.length : Int) := of_decide_eq_true (by first | (with_reducible assumption) | assumption)
 obtain ⟨ad175, e175, hx175_0⟩ := Kd.at_int (Kd.R_reads' HO_16.out).2.2 x20_4 p175 q175
 cases e175
 replace p175 := eq_true p175
 replace q175 := eq_true q175
 obtain ⟨Ao52, co52, eo52⟩ := Kd.R_slice HO_17.out
 subst eo52
 have p176 : 0 ≤ (x20_4 : Int) := of_decide_eq_true (by first | (with_reducible assumption) | assumption)
 have q176 : x20_4 < (t169.length : Int) := of_decide_eq_true (by first | (with_reducible assumption) | assumption)
 obtain ⟨ad176, e176, hx176_0⟩ := Kd.at_int (Kd.R_reads' HO_17.out).2.2 x20_4 p176 q176
 cases e176
 replace p176 := eq_true p176
 replace q176 := eq_true q176
 go_wp2
 go_roundg k4
 case measure => have := HJ6.out; have := HJ17.out; have := HK3.out; have := HK4.out; omega
 case rel => exact ⟨(wrap64 (x20_4 + 1)), (by first | rfl | (simp; done) | (simp [*]; done)), H', ⟨by have := HJ6.out; have := HJ17.out; have := HK3.out; have := HK4.out; omega⟩, ⟨by (with_reducible repeat (first | apply Kd.S_alloc | apply Kd.S_drewN | apply Kd.S_drew)); exact HO_13.out⟩, ⟨by (with_reducible repeat (first | apply Kd.R_alloc | apply Kd.R_drewN | apply Kd.R_drew)); exact HO_14.out⟩, ⟨by (with_reducible repeat (first | apply Kd.R_alloc | apply Kd.R_drewN | apply Kd.R_drew)); exact HO_15.out⟩, ⟨by (with_reducible repeat (first | apply Kd.R_alloc | apply Kd.R_drewN | apply Kd.R_drew)); exact HO_16.out⟩, ⟨by (with_reducible repeat (first | apply Kd.R_alloc | apply Kd.R_drewN | apply Kd.R_drew)); exact HO_17.out⟩, ⟨by repeat (first | (with_reducible first | exact HB.out | apply below_alloc | apply pw_below_drewN | apply below_drew1) | exact HB.out)⟩⟩
 }
 {
 rw [if_neg c48] at H
 exact absurd H (by simp)
 }
 }
 {
 rw [if_neg c47] at H
 exact absurd H (by simp)
 }
 }
 {
 rw [if_neg c46] at H
 exact absurd H (by simp)
 }
 }
 {
 rw [if_neg c45] at H
 exact absurd H (by simp)
 }
 }
 {
 rw [if_neg c44] at H
 exact absurd H (by simp)
 }
 }
 {
 rw [if_neg c43] at H
 exact absurd H (by simp)
 }
 }
 {
 rw [if_neg c42] at H
 exact absurd H (by simp)
 }
 }
 {
 rw [if_neg c41] at H
 exact absurd H (by simp)
 }
 }
 {
 rw [if_neg c40] at H
 exact absurd H (by simp)
 }
 }
 {
 rw [if_neg c39] at H
 have c39b0 : decide (x20_4 < (t157.length : Int)) = false := decide_eq_false c39
 clear c39
 obtain rfl := Option.some.inj H
 go_wp2
 go_ret
 exact ⟨by first | rfl | (simp [errW_none, errW_some] <;> rfl) | (simp [*, errW_none, errW_some] <;> rfl), by repeat (first | (with_reducible first | exact HB.out | apply below_alloc | apply pw_below_drewN | apply below_drew1) | exact HB.out)⟩
 }
 )
 )
 }
 )
 )
 }
 )
 )
 }
 )
 )
/-- THE ONE PURE STATEMENT of interlocklaw13_FlowNone: yours. -/
def interlocklaw13_FlowNone.Pure : Prop := ∀ (a0 : Int) (l1 : List Int) (l2 : List Int) (l3 : List Int) (a4 : Int) (a5 : Bool), (Lit.int .u8 a0).wf = true → l1.length ≤ maxLen → l1.length * 1 ≤ 140737488351232 → (∀ x ∈ l1, (Lit.int .u8 x).wf = true) → l2.length ≤ maxLen → l2.length * 8 ≤ 140737488351232 → (∀ x ∈ l2, (Lit.int .u64 x).wf = true) → l3.length ≤ maxLen → l3.length * 8 ≤ 140737488351232 → (∀ x ∈ l3, (Lit.int .u64 x).wf = true) → (Lit.int .u64 a4).wf = true → ∃ k, interlocklaw13_FlowNone.f k a0 l1 l2 l3 a4 a5 = some true
theorem interlocklaw13_FlowNone.walk (P : interlocklaw13_FlowNone.Pure) (a0 : Int) (a1 : Option Addr) (len1 cap1 : Nat) (z1 : List Int) (a2 : Option Addr) (len2 cap2 : Nat) (z2 : List Int) (a3 : Option Addr) (len3 cap3 : Nat) (z3 : List Int) (a4 : Int) (a5 : Bool) (w : World) (w0 : (Lit.int .u8 a0).wf = true) (w1 : (a1 = none ∧ len1 = 0 ∧ cap1 = 0 ∧ z1 = []) ∨ ∃ x, a1 = some x ∧ len1 ≤ cap1 ∧ cap1 ≤ maxLen ∧ z1.length = cap1 ∧ (∀ i, i < z1.length → w.cell? (x.add i) = some (.int .u8 (z1.getD i 0))) ∧ ∀ n ∈ z1, (Lit.int .u8 n).wf = true) (y1 : len1 * 1 ≤ 140737488351232) (w2 : (a2 = none ∧ len2 = 0 ∧ cap2 = 0 ∧ z2 = []) ∨ ∃ x, a2 = some x ∧ len2 ≤ cap2 ∧ cap2 ≤ maxLen ∧ z2.length = cap2 ∧ (∀ i, i < z2.length → w.cell? (x.add i) = some (.int .u64 (z2.getD i 0))) ∧ ∀ n ∈ z2, (Lit.int .u64 n).wf = true) (y2 : len2 * 8 ≤ 140737488351232) (w3 : (a3 = none ∧ len3 = 0 ∧ cap3 = 0 ∧ z3 = []) ∨ ∃ x, a3 = some x ∧ len3 ≤ cap3 ∧ cap3 ≤ maxLen ∧ z3.length = cap3 ∧ (∀ i, i < z3.length → w.cell? (x.add i) = some (.int .u64 (z3.getD i 0))) ∧ ∀ n ∈ z3, (Lit.int .u64 n).wf = true) (y3 : len3 * 8 ≤ 140737488351232) (w4 : (Lit.int .u64 a4).wf = true) :
    Calls Try.prog 3 #[.int .u8 a0, .slice a1 len1 cap1, .slice a2 len2 cap2, .slice a3 len3 cap3, .int .u64 a4, .bool a5] w fun e w' => e = .returned (.bool true) ∧ Below w.heap.size w w' := by
  obtain ⟨l1, rfl, hr1, hm1, hw1, hc1⟩ := ReadsInt.ofRowC w1
  obtain ⟨l2, rfl, hr2, hm2, hw2, hc2⟩ := ReadsInt.ofRowC w2
  obtain ⟨l3, rfl, hr3, hm3, hw3, hc3⟩ := ReadsInt.ofRowC w3
  obtain ⟨k, h⟩ := P a0 l1 l2 l3 a4 a5 w0 hm1 y1 hw1 hm2 y2 hw2 hm3 y3 hw3 w4
  refine (interlocklaw13_FlowNone.calls k a0 _ _ l1 _ _ l2 _ _ l3 a4 a5 true w (Kd.C_of_reads (d := (0 : Int)) (h1 := fun _ => rfl) hr1) hc1 (Kd.C_of_reads (d := (0 : Int)) (h1 := fun _ => rfl) hr2) hc2 (Kd.C_of_reads (d := (0 : Int)) (h1 := fun _ => rfl) hr3) hc3 h).mono ?_
  rintro e w' ⟨rfl, hd⟩
  exact ⟨rfl, hd⟩

end Go.Proofs.Ytfiemikganhgeaa.P
