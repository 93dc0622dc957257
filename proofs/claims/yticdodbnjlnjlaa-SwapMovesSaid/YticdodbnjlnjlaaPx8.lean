-- written by this project's xprint.py (a turn of the kit's printer; its own texts among them)
import Derived.Test.YticdodbnjlnjlaaPx0
namespace Go.Proofs.Yticdodbnjlnjlaa.P
open Go.RowKit Go.Proofs.YticdodbnjlnjlaaW.PrintWords Go.Proofs.YticdodbnjlnjlaaW.PrintLast Go.Proofs.YticdodbnjlnjlaaW.PrintMore
attribute [local go_sem] max2_int min2_int max_two min_two max_three min_three max_four min_four   -- for this text's walks alone
attribute [local irreducible] Calls
set_option linter.unusedVariables false
set_option linter.unusedSimpArgs false

/-! ### interlockref02_Plain: function 25 -/
def interlockref02_Plain.f (a0 : Int) : Option (Bool) := some (decide (a0 ≤ 8))
set_option maxHeartbeats 8000000 in
set_option maxRecDepth 100000 in
theorem interlockref02_Plain.calls (a0 : Int) (r : Bool) (w : World) (h : interlockref02_Plain.f a0 = some r) :
    Calls Try.prog 25 #[.int .u8 a0] w fun e w' => e = .returned (.bool r) ∧ Drawn0 w w' := by
  have H : (some (decide (a0 ≤ 8))) = some r := h
  clear h
  obtain rfl := Option.some.inj H
  go_enter Try.func25, Try.ntmps25
  go_wp2
  go_ret
  exact ⟨by first | rfl | (simp; done) | (simp [*]; done), by repeat (first | exact Drawn0.refl _ | apply Drawn0.step)⟩

/-! ### interlockref11_head: function 24 -/
mutual
def interlockref11_head.j0 : Nat → List (S33) → Int → Bool → Option (Bool)
  | 0, _, _, _ => none
  | k + 1, x0, x1, x26 => if x26 = true then (some true) else (interlockref11_head.l0 k x0 x1 0)
def interlockref11_head.l0 : Nat → List (S33) → Int → Int → Option (Bool)
  | 0, _, _, _ => none
  | k + 1, x0, x1, x5 => if x5 < (x0.length : Int) then (if 0 ≤ x5 then (if ((rd_T33 x0 x5).f0) = 10 then (if ((rd_T33 x0 x5).f1) = x1 then (some true) else (if ((rd_T33 x0 x5).f0) = 11 then (if ((rd_T33 x0 x5).f2) = x1 then (some true) else (interlockref11_head.l0 k x0 x1 (wrap64 (x5 + 1)))) else (interlockref11_head.l0 k x0 x1 (wrap64 (x5 + 1))))) else (if ((rd_T33 x0 x5).f0) = 11 then (if ((rd_T33 x0 x5).f2) = x1 then (some true) else (interlockref11_head.l0 k x0 x1 (wrap64 (x5 + 1)))) else (interlockref11_head.l0 k x0 x1 (wrap64 (x5 + 1))))) else (none)) else (some false)
end
def interlockref11_head.f (k : Nat) (l0 : List (S33)) (a1 : Int) : Option (Bool) := if a1 = 0 then (interlockref11_head.j0 k l0 a1 true) else (if 0 ≤ a1 then (if a1 < (l0.length : Int) then ((interlockref02_Plain.f ((rd_T33 l0 a1).f0)).bind fun t165 => (if t165 = true then (if 0 ≤ (wrap64 (a1 - 1)) then (if (wrap64 (a1 - 1)) < (l0.length : Int) then ((interlockref02_Plain.f ((rd_T33 l0 (wrap64 (a1 - 1))).f0)).bind fun t167 => (interlockref11_head.j0 k l0 a1 (!t167))) else (none)) else (none)) else (interlockref11_head.j0 k l0 a1 true))) else (none)) else (none))
theorem interlockref11_head.mono_l : ∀ k, (∀ y0 y1 y2, LeO (interlockref11_head.j0 k y0 y1 y2) (interlockref11_head.j0 (k + 1) y0 y1 y2)) ∧ (∀ y0 y1 y2, LeO (interlockref11_head.l0 k y0 y1 y2) (interlockref11_head.l0 (k + 1) y0 y1 y2))
  | 0 => ⟨fun _ _ _ r h => by simp [interlockref11_head.j0] at h, fun _ _ _ r h => by simp [interlockref11_head.l0] at h⟩
  | k + 1 => by
    obtain ⟨ih0, ih1⟩ := interlockref11_head.mono_l k
    refine ⟨?_, ?_⟩
    · intro y0 y1 y2
      unfold interlockref11_head.j0
      repeat' first
      | (with_reducible exact ih0 _ _ _)
      | (with_reducible exact ih1 _ _ _)
      | (with_reducible exact LeO.refl _)
      | (with_reducible exact LeO.none _)
      | (with_reducible refine LeO.ite ?_ ?_)
      | (with_reducible refine LeO.bind ?_ (fun _ => ?_))
      | exact ih0 _ _ _
      | exact ih1 _ _ _
      | exact LeO.none _
      | refine LeO.ite ?_ ?_
      | refine LeO.bind ?_ (fun _ => ?_)
    · intro y0 y1 y2
      unfold interlockref11_head.l0
      repeat' first
      | (with_reducible exact ih0 _ _ _)
      | (with_reducible exact ih1 _ _ _)
      | (with_reducible exact LeO.refl _)
      | (with_reducible exact LeO.none _)
      | (with_reducible refine LeO.ite ?_ ?_)
      | (with_reducible refine LeO.bind ?_ (fun _ => ?_))
      | exact ih0 _ _ _
      | exact ih1 _ _ _
      | exact LeO.none _
      | refine LeO.ite ?_ ?_
      | refine LeO.bind ?_ (fun _ => ?_)
theorem interlockref11_head.mono : ∀ a0 a1 k, LeO (interlockref11_head.f k a0 a1) (interlockref11_head.f (k + 1) a0 a1) := by
  intro a0 a1 k
  obtain ⟨ih0, ih1⟩ := interlockref11_head.mono_l k
  unfold interlockref11_head.f
  repeat' first
      | (with_reducible exact ih0 _ _ _)
      | (with_reducible exact ih1 _ _ _)
      | (with_reducible exact LeO.refl _)
      | (with_reducible exact LeO.none _)
      | (with_reducible refine LeO.ite ?_ ?_)
      | (with_reducible refine LeO.bind ?_ (fun _ => ?_))
      | exact ih0 _ _ _
      | exact ih1 _ _ _
      | exact LeO.none _
      | refine LeO.ite ?_ ?_
      | refine LeO.bind ?_ (fun _ => ?_)
set_option maxHeartbeats 8000000 in
set_option maxRecDepth 100000 in
theorem interlockref11_head.calls (k : Nat) (A0 : Option Addr) (c0 : Nat) (l0 : List (S33)) (a1 : Int) (r : Bool) (w : World) (hr0 : Kd.C k33 w A0 l0.length l0) (hc0 : l0.length ≤ c0) (h : interlockref11_head.f k l0 a1 = some r) :
    Calls Try.prog 24 #[.slice A0 l0.length c0, .int .i64 a1] w fun e w' => e = .returned (.bool r) ∧ Drawn0 w w' := by
 have HR0 := Aside0.mk hr0
 have HC0 := Aside0.mk hc0
 clear hr0 hc0
 have H : (if a1 = 0 then (interlockref11_head.j0 k l0 a1 true) else (if 0 ≤ a1 then (if a1 < (l0.length : Int) then ((interlockref02_Plain.f ((rd_T33 l0 a1).f0)).bind fun t165 => (if t165 = true then (if 0 ≤ (wrap64 (a1 - 1)) then (if (wrap64 (a1 - 1)) < (l0.length : Int) then ((interlockref02_Plain.f ((rd_T33 l0 (wrap64 (a1 - 1))).f0)).bind fun t167 => (interlockref11_head.j0 k l0 a1 (!t167))) else (none)) else (none)) else (interlockref11_head.j0 k l0 a1 true))) else (none)) else (none))) = some r := h
 clear h
 have HC3 := Aside0.mk H
 clear H
 go_enter Try.func24, Try.ntmps24
 go_upto_region 1 with (fail)
 go_cut [26] (fun v26 wc => ∃ (kq : Nat) (x26_2 : Bool), v26 = .bool x26_2 ∧ Aside0 (interlockref11_head.j0 kq l0 a1 x26_2 = some r) ∧ Aside0 (kq ≤ k) ∧ Drawn0 w wc)
 case first => (
 have H := HC3.out
 clear HC3
 by_cases c4 : a1 = 0
 {
 rw [if_pos c4] at H
 have c4b0 : (a1 == 0) = true := beq_iff_eq.mpr c4
 have c4b1 : (a1 != 0) = false := bne_eq_false_iff_eq.mpr c4
 clear c4
 (first | rw [c4b0] | (simp only [i64_w, i32_w]; rw [c4b0]) | skip)
 have H' := Aside0.mk H
 clear H
 go_wp2
 go_meet
 case rel => exact ⟨_, (true), (by first | rfl | (simp; done) | (simp [*]; done)), H', ⟨by first | omega | exact Nat.le_refl _⟩, by repeat (first | exact Drawn0.refl _ | apply Drawn0.step)⟩
 }
 {
 rw [if_neg c4] at H
 have c4b0 : (a1 == 0) = false := beq_eq_false_iff_ne.mpr c4
 have c4b1 : (a1 != 0) = true := bne_iff_ne.mpr c4
 (first | rw [c4b0] | (simp only [i64_w, i32_w]; rw [c4b0]) | skip)
 by_cases c5 : 0 ≤ a1
 {
 rw [if_pos c5] at H
 have c5b0 : decide (0 ≤ a1) = true := decide_eq_true c5
 clear c5
 by_cases c6 : a1 < (l0.length : Int)
 {
 rw [if_pos c6] at H
 have c6b0 : decide (a1 < (l0.length : Int)) = true := decide_eq_true c6
 clear c6
 replace H := Option.bind_eq_some_iff.mp H
 obtain ⟨t165, A70, H⟩ := H
 replace H : (if t165 = true then (if 0 ≤ (wrap64 (a1 - 1)) then (if (wrap64 (a1 - 1)) < (l0.length : Int) then ((interlockref02_Plain.f ((rd_T33 l0 (wrap64 (a1 - 1))).f0)).bind fun t167 => (interlockref11_head.j0 k l0 a1 (!t167))) else (none)) else (none)) else (interlockref11_head.j0 k l0 a1 true)) = some r := H
 have A7 := Aside0.mk A70
 clear A70
 by_cases c8 : t165 = true
 {
 subst c8
 have H1 : (if 0 ≤ (wrap64 (a1 - 1)) then (if (wrap64 (a1 - 1)) < (l0.length : Int) then ((interlockref02_Plain.f ((rd_T33 l0 (wrap64 (a1 - 1))).f0)).bind fun t167 => (interlockref11_head.j0 k l0 a1 (!t167))) else (none)) else (none)) = some r := by rw [if_pos rfl] at H; exact H
 clear H
 have H := H1
 clear H1
 obtain ⟨ji9, hji9⟩ : ∃ j_ : Int, (wrap64 (a1 - 1)) = j_ := ⟨_, rfl⟩
 replace H : (if 0 ≤ (ji9) then (if (ji9) < (l0.length : Int) then ((interlockref02_Plain.f ((rd_T33 l0 (ji9)).f0)).bind fun t167 => (interlockref11_head.j0 k l0 a1 (!t167))) else (none)) else (none)) = some r := by first | (rw [hji9] at H; exact H) | (simp only [hji9] at H ⊢; exact H)
 (try rw [hji9] at A7)
 have hji9w : (IntKind.i64.wrap (a1 - 1)) = ji9 := (i64_w _).trans hji9
 by_cases c10 : 0 ≤ (ji9)
 {
 rw [if_pos c10] at H
 have c10b0 : decide (0 ≤ (ji9)) = true := decide_eq_true c10
 clear c10
 by_cases c11 : (ji9) < (l0.length : Int)
 {
 rw [if_pos c11] at H
 have c11b0 : decide ((ji9) < (l0.length : Int)) = true := decide_eq_true c11
 clear c11
 replace H := Option.bind_eq_some_iff.mp H
 obtain ⟨t167, A120, H⟩ := H
 replace H : (interlockref11_head.j0 k l0 a1 (!t167)) = some r := H
 have A12 := Aside0.mk A120
 clear A120
 have H' := Aside0.mk H
 clear H
 have p164 : 0 ≤ (a1 : Int) := of_decide_eq_true (by first | (with_reducible assumption) | assumption)
 have q164 : a1 < (l0.length : Int) := of_decide_eq_true (by first | (with_reducible assumption) | assumption)
 obtain ⟨ad164, e164, hx164_0, hx164_1, hx164_2, hx164_3⟩ := at_T33 HR0.out a1 p164 q164
 cases e164
 replace p164 := eq_true p164
 replace q164 := eq_true q164
 go_wp2_with (first | (go_at_call 25; (with_reducible refine (interlockref02_Plain.calls ((rd_T33 l0 a1).f0) true _ A7.out).mono ?_); rintro e w' ⟨rfl, ⟨nd, rfl⟩⟩; have p166 : 0 ≤ ((ji9) : Int) := of_decide_eq_true (by first | (with_reducible assumption) | assumption); have q166 : (ji9) < (l0.length : Int) := of_decide_eq_true (by first | (with_reducible assumption) | assumption); obtain ⟨ad166, e166, hx166_0, hx166_1, hx166_2, hx166_3⟩ := at_T33 HR0.out (ji9) p166 q166; obtain rfl : ad164 = ad166 := (by injection e166); replace p166 := eq_true p166; replace q166 := eq_true q166) | (go_at_call 25; (with_reducible refine (interlockref02_Plain.calls ((rd_T33 l0 (ji9)).f0) t167 _ A12.out).mono ?_); rintro e w' ⟨rfl, ⟨nd, rfl⟩⟩))
 go_meet
 case rel => exact ⟨_, (!t167), (by first | rfl | (simp; done) | (simp [*]; done)), H', ⟨by first | omega | exact Nat.le_refl _⟩, by repeat (first | exact Drawn0.refl _ | apply Drawn0.step)⟩
 }
 {
 rw [if_neg c11] at H
 exact absurd H (by simp)
 }
 }
 {
 rw [if_neg c10] at H
 exact absurd H (by simp)
 }
 }
 {
 replace c8 := Bool.eq_false_iff.mpr c8
 subst c8
 have H1 : (interlockref11_head.j0 k l0 a1 true) = some r := by rw [if_neg (show ¬ (false = true) by decide)] at H; exact H
 clear H
 have H := H1
 clear H1
 have H' := Aside0.mk H
 clear H
 have p164 : 0 ≤ (a1 : Int) := of_decide_eq_true (by first | (with_reducible assumption) | assumption)
 have q164 : a1 < (l0.length : Int) := of_decide_eq_true (by first | (with_reducible assumption) | assumption)
 obtain ⟨ad164, e164, hx164_0, hx164_1, hx164_2, hx164_3⟩ := at_T33 HR0.out a1 p164 q164
 cases e164
 replace p164 := eq_true p164
 replace q164 := eq_true q164
 go_wp2_with (first | (go_at_call 25; (with_reducible refine (interlockref02_Plain.calls ((rd_T33 l0 a1).f0) false _ A7.out).mono ?_); rintro e w' ⟨rfl, ⟨nd, rfl⟩⟩))
 go_meet
 case rel => exact ⟨_, (true), (by first | rfl | (simp; done) | (simp [*]; done)), H', ⟨by first | omega | exact Nat.le_refl _⟩, by repeat (first | exact Drawn0.refl _ | apply Drawn0.step)⟩
 }
 }
 {
 rw [if_neg c6] at H
 exact absurd H (by simp)
 }
 }
 {
 rw [if_neg c5] at H
 exact absurd H (by simp)
 }
 }
 )
 case rest => (
 clear HC3
 try clear c1
 try clear p1
 try clear q1
 try clear hx1
 try clear c2
 try clear p2
 try clear c4
 try clear c4b0
 try clear c4b1
 try clear c5
 try clear c5b0
 try clear c6
 try clear c6b0
 try clear p6
 try clear c8
 try clear c10
 try clear c10b0
 try clear c11
 try clear c11b0
 try clear hx164_0
 try clear hx164_1
 try clear hx164_2
 try clear hx164_3
 try clear hx166_0
 try clear hx166_1
 try clear hx166_2
 try clear hx166_3
 try clear p164
 try clear p166
 try clear q164
 try clear q166
 obtain ⟨kq, x26_2, rfl, HA, HJ2, ⟨mc2, rfl⟩⟩ := hcut
 cases kq with
 | zero => exact absurd HA.out (by simp [interlockref11_head.j0])
 | succ kj2 => (
 have H := HA.out
 clear HA
 simp only [interlockref11_head.j0] at H
 by_cases c13 : x26_2 = true
 {
 subst c13
 have H1 : (some true) = some r := by rw [if_pos rfl] at H; exact H
 clear H
 have H := H1
 clear H1
 obtain rfl := Option.some.inj H
 go_wp2
 go_ret
 exact ⟨by first | rfl | (simp; done) | (simp [*]; done), by repeat (first | exact Drawn0.refl _ | apply Drawn0.step)⟩
 }
 {
 replace c13 := Bool.eq_false_iff.mpr c13
 subst c13
 have H1 : (interlockref11_head.l0 kj2 l0 a1 0) = some r := by rw [if_neg (show ¬ (false = true) by decide)] at H; exact H
 clear H
 have H := H1
 clear H1
 have H' := Aside0.mk H
 clear H
 go_wp2
 go_loopg [5] kj2 (fun kq v5 w' => ∃ (x5_2 : Int), v5 = .int .i64 x5_2 ∧ Aside0 (interlockref11_head.l0 kq l0 a1 x5_2 = some r) ∧ Aside0 (kq ≤ kj2) ∧ Drawn0 w w')
 case atStart => exact ⟨(0), (by first | rfl | (simp; done) | (simp [*]; done)), H', ⟨Nat.le_refl _⟩, by repeat (first | exact Drawn0.refl _ | apply Drawn0.step)⟩
 case round => (
 clear H'
 try clear c1
 try clear p1
 try clear q1
 try clear hx1
 try clear c2
 try clear p2
 try clear c4
 try clear c4b0
 try clear c4b1
 try clear c5
 try clear c5b0
 try clear c6
 try clear c6b0
 try clear p6
 try clear c8
 try clear c10
 try clear c10b0
 try clear c11
 try clear c11b0
 try clear c13
 try clear hx164_0
 try clear hx164_1
 try clear hx164_2
 try clear hx164_3
 try clear hx166_0
 try clear hx166_1
 try clear hx166_2
 try clear hx166_3
 try clear p1
 try clear p164
 try clear p166
 try clear p2
 try clear p6
 try clear q1
 try clear q164
 try clear q166
 obtain ⟨x5_2, rfl, HA, HK2, ⟨m2, rfl⟩⟩ := hrel
 cases gk with
 | zero => exact absurd HA.out (by simp [interlockref11_head.l0])
 | succ k2 => (
 have H := HA.out
 clear HA
 simp only [interlockref11_head.l0] at H
 by_cases c14 : x5_2 < (l0.length : Int)
 {
 rw [if_pos c14] at H
 have c14b0 : decide (x5_2 < (l0.length : Int)) = true := decide_eq_true c14
 clear c14
 by_cases c15 : 0 ≤ x5_2
 {
 rw [if_pos c15] at H
 have c15b0 : decide (0 ≤ x5_2) = true := decide_eq_true c15
 clear c15
 by_cases c16 : ((rd_T33 l0 x5_2).f0) = 10
 {
 rw [if_pos c16] at H
 have c16b0 : (((rd_T33 l0 x5_2).f0) == 10) = true := beq_iff_eq.mpr c16
 have c16b1 : (((rd_T33 l0 x5_2).f0) != 10) = false := bne_eq_false_iff_eq.mpr c16
 clear c16
 by_cases c17 : ((rd_T33 l0 x5_2).f1) = a1
 {
 rw [if_pos c17] at H
 have c17b0 : (((rd_T33 l0 x5_2).f1) == a1) = true := beq_iff_eq.mpr c17
 have c17b1 : (((rd_T33 l0 x5_2).f1) != a1) = false := bne_eq_false_iff_eq.mpr c17
 clear c17
 obtain rfl := Option.some.inj H
 have p168 : 0 ≤ (x5_2 : Int) := of_decide_eq_true (by first | (with_reducible assumption) | assumption)
 have q168 : x5_2 < (l0.length : Int) := of_decide_eq_true (by first | (with_reducible assumption) | assumption)
 obtain ⟨ad168, e168, hx168_0, hx168_1, hx168_2, hx168_3⟩ := at_T33 HR0.out x5_2 p168 q168
 cases e168
 replace p168 := eq_true p168
 replace q168 := eq_true q168
 have p169 : 0 ≤ (x5_2 : Int) := of_decide_eq_true (by first | (with_reducible assumption) | assumption)
 have q169 : x5_2 < (l0.length : Int) := of_decide_eq_true (by first | (with_reducible assumption) | assumption)
 obtain ⟨ad169, e169, hx169_0, hx169_1, hx169_2, hx169_3⟩ := at_T33 HR0.out x5_2 p169 q169
 obtain rfl : ad168 = ad169 := (by injection e169)
 replace p169 := eq_true p169
 replace q169 := eq_true q169
 go_wp2
 go_ret
 exact ⟨by first | rfl | (simp; done) | (simp [*]; done), by repeat (first | exact Drawn0.refl _ | apply Drawn0.step)⟩
 }
 {
 rw [if_neg c17] at H
 have c17b0 : (((rd_T33 l0 x5_2).f1) == a1) = false := beq_eq_false_iff_ne.mpr c17
 have c17b1 : (((rd_T33 l0 x5_2).f1) != a1) = true := bne_iff_ne.mpr c17
 by_cases c18 : ((rd_T33 l0 x5_2).f0) = 11
 {
 rw [if_pos c18] at H
 have c18b0 : (((rd_T33 l0 x5_2).f0) == 11) = true := beq_iff_eq.mpr c18
 have c18b1 : (((rd_T33 l0 x5_2).f0) != 11) = false := bne_eq_false_iff_eq.mpr c18
 clear c18
 by_cases c19 : ((rd_T33 l0 x5_2).f2) = a1
 {
 rw [if_pos c19] at H
 have c19b0 : (((rd_T33 l0 x5_2).f2) == a1) = true := beq_iff_eq.mpr c19
 have c19b1 : (((rd_T33 l0 x5_2).f2) != a1) = false := bne_eq_false_iff_eq.mpr c19
 clear c19
 obtain rfl := Option.some.inj H
 have p168 : 0 ≤ (x5_2 : Int) := of_decide_eq_true (by first | (with_reducible assumption) | assumption)
 have q168 : x5_2 < (l0.length : Int) := of_decide_eq_true (by first | (with_reducible assumption) | assumption)
 obtain ⟨ad168, e168, hx168_0, hx168_1, hx168_2, hx168_3⟩ := at_T33 HR0.out x5_2 p168 q168
 cases e168
 replace p168 := eq_true p168
 replace q168 := eq_true q168
 have p169 : 0 ≤ (x5_2 : Int) := of_decide_eq_true (by first | (with_reducible assumption) | assumption)
 have q169 : x5_2 < (l0.length : Int) := of_decide_eq_true (by first | (with_reducible assumption) | assumption)
 obtain ⟨ad169, e169, hx169_0, hx169_1, hx169_2, hx169_3⟩ := at_T33 HR0.out x5_2 p169 q169
 obtain rfl : ad168 = ad169 := (by injection e169)
 replace p169 := eq_true p169
 replace q169 := eq_true q169
 have p170 : 0 ≤ (x5_2 : Int) := of_decide_eq_true (by first | (with_reducible assumption) | assumption)
 have q170 : x5_2 < (l0.length : Int) := of_decide_eq_true (by first | (with_reducible assumption) | assumption)
 obtain ⟨ad170, e170, hx170_0, hx170_1, hx170_2, hx170_3⟩ := at_T33 HR0.out x5_2 p170 q170
 obtain rfl : ad168 = ad170 := (by injection e170)
 replace p170 := eq_true p170
 replace q170 := eq_true q170
 have p171 : 0 ≤ (x5_2 : Int) := of_decide_eq_true (by first | (with_reducible assumption) | assumption)
 have q171 : x5_2 < (l0.length : Int) := of_decide_eq_true (by first | (with_reducible assumption) | assumption)
 obtain ⟨ad171, e171, hx171_0, hx171_1, hx171_2, hx171_3⟩ := at_T33 HR0.out x5_2 p171 q171
 obtain rfl : ad168 = ad171 := (by injection e171)
 replace p171 := eq_true p171
 replace q171 := eq_true q171
 go_wp2
 go_ret
 exact ⟨by first | rfl | (simp; done) | (simp [*]; done), by repeat (first | exact Drawn0.refl _ | apply Drawn0.step)⟩
 }
 {
 rw [if_neg c19] at H
 have c19b0 : (((rd_T33 l0 x5_2).f2) == a1) = false := beq_eq_false_iff_ne.mpr c19
 have c19b1 : (((rd_T33 l0 x5_2).f2) != a1) = true := bne_iff_ne.mpr c19
 have H' := Aside0.mk H
 clear H
 have p168 : 0 ≤ (x5_2 : Int) := of_decide_eq_true (by first | (with_reducible assumption) | assumption)
 have q168 : x5_2 < (l0.length : Int) := of_decide_eq_true (by first | (with_reducible assumption) | assumption)
 obtain ⟨ad168, e168, hx168_0, hx168_1, hx168_2, hx168_3⟩ := at_T33 HR0.out x5_2 p168 q168
 cases e168
 replace p168 := eq_true p168
 replace q168 := eq_true q168
 have p169 : 0 ≤ (x5_2 : Int) := of_decide_eq_true (by first | (with_reducible assumption) | assumption)
 have q169 : x5_2 < (l0.length : Int) := of_decide_eq_true (by first | (with_reducible assumption) | assumption)
 obtain ⟨ad169, e169, hx169_0, hx169_1, hx169_2, hx169_3⟩ := at_T33 HR0.out x5_2 p169 q169
 obtain rfl : ad168 = ad169 := (by injection e169)
 replace p169 := eq_true p169
 replace q169 := eq_true q169
 have p170 : 0 ≤ (x5_2 : Int) := of_decide_eq_true (by first | (with_reducible assumption) | assumption)
 have q170 : x5_2 < (l0.length : Int) := of_decide_eq_true (by first | (with_reducible assumption) | assumption)
 obtain ⟨ad170, e170, hx170_0, hx170_1, hx170_2, hx170_3⟩ := at_T33 HR0.out x5_2 p170 q170
 obtain rfl : ad168 = ad170 := (by injection e170)
 replace p170 := eq_true p170
 replace q170 := eq_true q170
 have p171 : 0 ≤ (x5_2 : Int) := of_decide_eq_true (by first | (with_reducible assumption) | assumption)
 have q171 : x5_2 < (l0.length : Int) := of_decide_eq_true (by first | (with_reducible assumption) | assumption)
 obtain ⟨ad171, e171, hx171_0, hx171_1, hx171_2, hx171_3⟩ := at_T33 HR0.out x5_2 p171 q171
 obtain rfl : ad168 = ad171 := (by injection e171)
 replace p171 := eq_true p171
 replace q171 := eq_true q171
 go_wp2
 go_roundg k2
 case measure => have := HJ2.out; have := HK2.out; omega
 case rel => exact ⟨(wrap64 (x5_2 + 1)), (by first | rfl | (simp; done) | (simp [*]; done)), H', ⟨by have := HJ2.out; have := HK2.out; omega⟩, by repeat (first | exact Drawn0.refl _ | apply Drawn0.step)⟩
 }
 }
 {
 rw [if_neg c18] at H
 have c18b0 : (((rd_T33 l0 x5_2).f0) == 11) = false := beq_eq_false_iff_ne.mpr c18
 have c18b1 : (((rd_T33 l0 x5_2).f0) != 11) = true := bne_iff_ne.mpr c18
 have H' := Aside0.mk H
 clear H
 have p168 : 0 ≤ (x5_2 : Int) := of_decide_eq_true (by first | (with_reducible assumption) | assumption)
 have q168 : x5_2 < (l0.length : Int) := of_decide_eq_true (by first | (with_reducible assumption) | assumption)
 obtain ⟨ad168, e168, hx168_0, hx168_1, hx168_2, hx168_3⟩ := at_T33 HR0.out x5_2 p168 q168
 cases e168
 replace p168 := eq_true p168
 replace q168 := eq_true q168
 have p169 : 0 ≤ (x5_2 : Int) := of_decide_eq_true (by first | (with_reducible assumption) | assumption)
 have q169 : x5_2 < (l0.length : Int) := of_decide_eq_true (by first | (with_reducible assumption) | assumption)
 obtain ⟨ad169, e169, hx169_0, hx169_1, hx169_2, hx169_3⟩ := at_T33 HR0.out x5_2 p169 q169
 obtain rfl : ad168 = ad169 := (by injection e169)
 replace p169 := eq_true p169
 replace q169 := eq_true q169
 have p170 : 0 ≤ (x5_2 : Int) := of_decide_eq_true (by first | (with_reducible assumption) | assumption)
 have q170 : x5_2 < (l0.length : Int) := of_decide_eq_true (by first | (with_reducible assumption) | assumption)
 obtain ⟨ad170, e170, hx170_0, hx170_1, hx170_2, hx170_3⟩ := at_T33 HR0.out x5_2 p170 q170
 obtain rfl : ad168 = ad170 := (by injection e170)
 replace p170 := eq_true p170
 replace q170 := eq_true q170
 go_wp2
 go_roundg k2
 case measure => have := HJ2.out; have := HK2.out; omega
 case rel => exact ⟨(wrap64 (x5_2 + 1)), (by first | rfl | (simp; done) | (simp [*]; done)), H', ⟨by have := HJ2.out; have := HK2.out; omega⟩, by repeat (first | exact Drawn0.refl _ | apply Drawn0.step)⟩
 }
 }
 }
 {
 rw [if_neg c16] at H
 have c16b0 : (((rd_T33 l0 x5_2).f0) == 10) = false := beq_eq_false_iff_ne.mpr c16
 have c16b1 : (((rd_T33 l0 x5_2).f0) != 10) = true := bne_iff_ne.mpr c16
 by_cases c20 : ((rd_T33 l0 x5_2).f0) = 11
 {
 rw [if_pos c20] at H
 have c20b0 : (((rd_T33 l0 x5_2).f0) == 11) = true := beq_iff_eq.mpr c20
 have c20b1 : (((rd_T33 l0 x5_2).f0) != 11) = false := bne_eq_false_iff_eq.mpr c20
 clear c20
 by_cases c21 : ((rd_T33 l0 x5_2).f2) = a1
 {
 rw [if_pos c21] at H
 have c21b0 : (((rd_T33 l0 x5_2).f2) == a1) = true := beq_iff_eq.mpr c21
 have c21b1 : (((rd_T33 l0 x5_2).f2) != a1) = false := bne_eq_false_iff_eq.mpr c21
 clear c21
 obtain rfl := Option.some.inj H
 have p168 : 0 ≤ (x5_2 : Int) := of_decide_eq_true (by first | (with_reducible assumption) | assumption)
 have q168 : x5_2 < (l0.length : Int) := of_decide_eq_true (by first | (with_reducible assumption) | assumption)
 obtain ⟨ad168, e168, hx168_0, hx168_1, hx168_2, hx168_3⟩ := at_T33 HR0.out x5_2 p168 q168
 cases e168
 replace p168 := eq_true p168
 replace q168 := eq_true q168
 have p172 : 0 ≤ (x5_2 : Int) := of_decide_eq_true (by first | (with_reducible assumption) | assumption)
 have q172 : x5_2 < (l0.length : Int) := of_decide_eq_true (by first | (with_reducible assumption) | assumption)
 obtain ⟨ad172, e172, hx172_0, hx172_1, hx172_2, hx172_3⟩ := at_T33 HR0.out x5_2 p172 q172
 obtain rfl : ad168 = ad172 := (by injection e172)
 replace p172 := eq_true p172
 replace q172 := eq_true q172
 have p173 : 0 ≤ (x5_2 : Int) := of_decide_eq_true (by first | (with_reducible assumption) | assumption)
 have q173 : x5_2 < (l0.length : Int) := of_decide_eq_true (by first | (with_reducible assumption) | assumption)
 obtain ⟨ad173, e173, hx173_0, hx173_1, hx173_2, hx173_3⟩ := at_T33 HR0.out x5_2 p173 q173
 obtain rfl : ad168 = ad173 := (by injection e173)
 replace p173 := eq_true p173
 replace q173 := eq_true q173
 go_wp2
 go_ret
 exact ⟨by first | rfl | (simp; done) | (simp [*]; done), by repeat (first | exact Drawn0.refl _ | apply Drawn0.step)⟩
 }
 {
 rw [if_neg c21] at H
 have c21b0 : (((rd_T33 l0 x5_2).f2) == a1) = false := beq_eq_false_iff_ne.mpr c21
 have c21b1 : (((rd_T33 l0 x5_2).f2) != a1) = true := bne_iff_ne.mpr c21
 have H' := Aside0.mk H
 clear H
 have p168 : 0 ≤ (x5_2 : Int) := of_decide_eq_true (by first | (with_reducible assumption) | assumption)
 have q168 : x5_2 < (l0.length : Int) := of_decide_eq_true (by first | (with_reducible assumption) | assumption)
 obtain ⟨ad168, e168, hx168_0, hx168_1, hx168_2, hx168_3⟩ := at_T33 HR0.out x5_2 p168 q168
 cases e168
 replace p168 := eq_true p168
 replace q168 := eq_true q168
 have p172 : 0 ≤ (x5_2 : Int) := of_decide_eq_true (by first | (with_reducible assumption) | assumption)
 have q172 : x5_2 < (l0.length : Int) := of_decide_eq_true (by first | (with_reducible assumption) | assumption)
 obtain ⟨ad172, e172, hx172_0, hx172_1, hx172_2, hx172_3⟩ := at_T33 HR0.out x5_2 p172 q172
 obtain rfl : ad168 = ad172 := (by injection e172)
 replace p172 := eq_true p172
 replace q172 := eq_true q172
 have p173 : 0 ≤ (x5_2 : Int) := of_decide_eq_true (by first | (with_reducible assumption) | assumption)
 have q173 : x5_2 < (l0.length : Int) := of_decide_eq_true (by first | (with_reducible assumption) | assumption)
 obtain ⟨ad173, e173, hx173_0, hx173_1, hx173_2, hx173_3⟩ := at_T33 HR0.out x5_2 p173 q173
 obtain rfl : ad168 = ad173 := (by injection e173)
 replace p173 := eq_true p173
 replace q173 := eq_true q173
 go_wp2
 go_roundg k2
 case measure => have := HJ2.out; have := HK2.out; omega
 case rel => exact ⟨(wrap64 (x5_2 + 1)), (by first | rfl | (simp; done) | (simp [*]; done)), H', ⟨by have := HJ2.out; have := HK2.out; omega⟩, by repeat (first | exact Drawn0.refl _ | apply Drawn0.step)⟩
 }
 }
 {
 rw [if_neg c20] at H
 have c20b0 : (((rd_T33 l0 x5_2).f0) == 11) = false := beq_eq_false_iff_ne.mpr c20
 have c20b1 : (((rd_T33 l0 x5_2).f0) != 11) = true := bne_iff_ne.mpr c20
 have H' := Aside0.mk H
 clear H
 have p168 : 0 ≤ (x5_2 : Int) := of_decide_eq_true (by first | (with_reducible assumption) | assumption)
 have q168 : x5_2 < (l0.length : Int) := of_decide_eq_true (by first | (with_reducible assumption) | assumption)
 obtain ⟨ad168, e168, hx168_0, hx168_1, hx168_2, hx168_3⟩ := at_T33 HR0.out x5_2 p168 q168
 cases e168
 replace p168 := eq_true p168
 replace q168 := eq_true q168
 have p172 : 0 ≤ (x5_2 : Int) := of_decide_eq_true (by first | (with_reducible assumption) | assumption)
 have q172 : x5_2 < (l0.length : Int) := of_decide_eq_true (by first | (with_reducible assumption) | assumption)
 obtain ⟨ad172, e172, hx172_0, hx172_1, hx172_2, hx172_3⟩ := at_T33 HR0.out x5_2 p172 q172
 obtain rfl : ad168 = ad172 := (by injection e172)
 replace p172 := eq_true p172
 replace q172 := eq_true q172
 go_wp2
 go_roundg k2
 case measure => have := HJ2.out; have := HK2.out; omega
 case rel => exact ⟨(wrap64 (x5_2 + 1)), (by first | rfl | (simp; done) | (simp [*]; done)), H', ⟨by have := HJ2.out; have := HK2.out; omega⟩, by repeat (first | exact Drawn0.refl _ | apply Drawn0.step)⟩
 }
 }
 }
 {
 rw [if_neg c15] at H
 exact absurd H (by simp)
 }
 }
 {
 rw [if_neg c14] at H
 have c14b0 : decide (x5_2 < (l0.length : Int)) = false := decide_eq_false c14
 clear c14
 obtain rfl := Option.some.inj H
 go_wp2
 go_ret
 exact ⟨by first | rfl | (simp; done) | (simp [*]; done), by repeat (first | exact Drawn0.refl _ | apply Drawn0.step)⟩
 }
 )
 )
 }
 )
 )
/-! ### interlockref11_Head: function 10 -/
mutual
def interlockref11_Head.j0 : Nat → List (S33) → Int → Bool → Option (Int)
  | 0, _, _, _ => none
  | k + 1, x0, x1, x12 => if x12 = true then (some x1) else (interlockref11_Head.l0 k x0 x1)
def interlockref11_Head.l0 : Nat → List (S33) → Int → Option (Int)
  | 0, _, _ => none
  | k + 1, x0, x1 => (interlockref11_head.f k x0 x1).bind fun t174 => (if t174 = true then (some x1) else (interlockref11_Head.l0 k x0 (wrap64 (x1 - 1))))
end
def interlockref11_Head.f (k : Nat) (l0 : List (S33)) (a1 : Int) : Option (Int) := if a1 < 0 then (interlockref11_Head.j0 k l0 a1 true) else (interlockref11_Head.j0 k l0 a1 (decide (a1 ≥ (l0.length : Int))))
theorem interlockref11_Head.mono_l : ∀ k, (∀ y0 y1 y2, LeO (interlockref11_Head.j0 k y0 y1 y2) (interlockref11_Head.j0 (k + 1) y0 y1 y2)) ∧ (∀ y0 y1, LeO (interlockref11_Head.l0 k y0 y1) (interlockref11_Head.l0 (k + 1) y0 y1))
  | 0 => ⟨fun _ _ _ r h => by simp [interlockref11_Head.j0] at h, fun _ _ r h => by simp [interlockref11_Head.l0] at h⟩
  | k + 1 => by
    obtain ⟨ih0, ih1⟩ := interlockref11_Head.mono_l k
    refine ⟨?_, ?_⟩
    · intro y0 y1 y2
      unfold interlockref11_Head.j0
      repeat' first
      | (with_reducible exact ih0 _ _ _)
      | (with_reducible exact ih1 _ _)
      | (with_reducible exact interlockref11_head.mono _ _ _)
      | (with_reducible exact LeO.refl _)
      | (with_reducible exact LeO.none _)
      | (with_reducible refine LeO.ite ?_ ?_)
      | (with_reducible refine LeO.bind ?_ (fun _ => ?_))
      | exact ih0 _ _ _
      | exact ih1 _ _
      | exact LeO.none _
      | refine LeO.ite ?_ ?_
      | refine LeO.bind ?_ (fun _ => ?_)
    · intro y0 y1
      unfold interlockref11_Head.l0
      repeat' first
      | (with_reducible exact ih0 _ _ _)
      | (with_reducible exact ih1 _ _)
      | (with_reducible exact interlockref11_head.mono _ _ _)
      | (with_reducible exact LeO.refl _)
      | (with_reducible exact LeO.none _)
      | (with_reducible refine LeO.ite ?_ ?_)
      | (with_reducible refine LeO.bind ?_ (fun _ => ?_))
      | exact ih0 _ _ _
      | exact ih1 _ _
      | exact LeO.none _
      | refine LeO.ite ?_ ?_
      | refine LeO.bind ?_ (fun _ => ?_)
theorem interlockref11_Head.mono : ∀ a0 a1 k, LeO (interlockref11_Head.f k a0 a1) (interlockref11_Head.f (k + 1) a0 a1) := by
  intro a0 a1 k
  obtain ⟨ih0, ih1⟩ := interlockref11_Head.mono_l k
  unfold interlockref11_Head.f
  repeat' first
      | (with_reducible exact ih0 _ _ _)
      | (with_reducible exact ih1 _ _)
      | (with_reducible exact interlockref11_head.mono _ _ _)
      | (with_reducible exact LeO.refl _)
      | (with_reducible exact LeO.none _)
      | (with_reducible refine LeO.ite ?_ ?_)
      | (with_reducible refine LeO.bind ?_ (fun _ => ?_))
      | exact ih0 _ _ _
      | exact ih1 _ _
      | exact LeO.none _
      | refine LeO.ite ?_ ?_
      | refine LeO.bind ?_ (fun _ => ?_)
set_option maxHeartbeats 8000000 in
set_option maxRecDepth 100000 in
theorem interlockref11_Head.calls (k : Nat) (A0 : Option Addr) (c0 : Nat) (l0 : List (S33)) (a1 : Int) (r : Int) (w : World) (hr0 : Kd.C k33 w A0 l0.length l0) (hc0 : l0.length ≤ c0) (h : interlockref11_Head.f k l0 a1 = some r) :
    Calls Try.prog 10 #[.slice A0 l0.length c0, .int .i64 a1] w fun e w' => e = .returned (.int .i64 r) ∧ Drawn0 w w' := by
  have HR0 := Aside0.mk hr0
  have HC0 := Aside0.mk hc0
  clear hr0 hc0
  have H : (if a1 < 0 then (interlockref11_Head.j0 k l0 a1 true) else (interlockref11_Head.j0 k l0 a1 (decide (a1 ≥ (l0.length : Int))))) = some r := h
  clear h
  have HC3 := Aside0.mk H
  clear H
  go_enter Try.func10, Try.ntmps10
  go_upto_region 1 with (fail)
  go_cut [12] (fun v12 wc => ∃ (kq : Nat) (x12_2 : Bool), v12 = .bool x12_2 ∧ Aside0 (interlockref11_Head.j0 kq l0 a1 x12_2 = some r) ∧ Aside0 (kq ≤ k) ∧ Drawn0 w wc)
  case first =>
    have H := HC3.out
    clear HC3
    by_cases c4 : a1 < 0
    · rw [if_pos c4] at H
      have c4b0 : decide (a1 < 0) = true := decide_eq_true c4
      clear c4
      (first | rw [c4b0] | (simp only [i64_w, i32_w]; rw [c4b0]) | skip)
      have H' := Aside0.mk H
      clear H
      go_wp2
      go_meet
      case rel => exact ⟨_, (true), (by first | rfl | (simp; done) | (simp [*]; done)), H', ⟨by first | omega | exact Nat.le_refl _⟩, by repeat (first | exact Drawn0.refl _ | apply Drawn0.step)⟩
    · rw [if_neg c4] at H
      have c4b0 : decide (a1 < 0) = false := decide_eq_false c4
      clear c4
      (first | rw [c4b0] | (simp only [i64_w, i32_w]; rw [c4b0]) | skip)
      have H' := Aside0.mk H
      clear H
      go_wp2
      go_meet
      case rel => exact ⟨_, (decide (a1 ≥ (l0.length : Int))), (by first | rfl | (simp; done) | (simp [*]; done)), H', ⟨by first | omega | exact Nat.le_refl _⟩, by repeat (first | exact Drawn0.refl _ | apply Drawn0.step)⟩
  case rest =>
    clear HC3
    try clear c1
    try clear p2
    try clear c4
    try clear c4b0
    obtain ⟨kq, x12_2, rfl, HA, HJ2, ⟨mc2, rfl⟩⟩ := hcut
    cases kq with
    | zero => exact absurd HA.out (by simp [interlockref11_Head.j0])
    | succ kj2 =>
      have H := HA.out
      clear HA
      simp only [interlockref11_Head.j0] at H
      by_cases c5 : x12_2 = true
      · subst c5
        have H1 : (some a1) = some r := by rw [if_pos rfl] at H; exact H
        clear H
        have H := H1
        clear H1
        obtain rfl := Option.some.inj H
        go_wp2
        go_ret
        exact ⟨by first | rfl | (simp; done) | (simp [*]; done), by repeat (first | exact Drawn0.refl _ | apply Drawn0.step)⟩
      · replace c5 := Bool.eq_false_iff.mpr c5
        subst c5
        have H1 : (interlockref11_Head.l0 kj2 l0 a1) = some r := by rw [if_neg (show ¬ (false = true) by decide)] at H; exact H
        clear H
        have H := H1
        clear H1
        have H' := Aside0.mk H
        clear H
        go_wp2
        go_loopg [1] kj2 (fun kq v1 w' => ∃ (x1_2 : Int), v1 = .int .i64 x1_2 ∧ Aside0 (interlockref11_Head.l0 kq l0 x1_2 = some r) ∧ Aside0 (kq ≤ kj2) ∧ Drawn0 w w')
        case atStart => exact ⟨(a1), (by first | rfl | (simp; done) | (simp [*]; done)), H', ⟨Nat.le_refl _⟩, by repeat (first | exact Drawn0.refl _ | apply Drawn0.step)⟩
        case round =>
          clear H'
          try clear c1
          try clear c2
          try clear p2
          try clear c4
          try clear c4b0
          try clear c5
          try clear p2
          obtain ⟨x1_2, rfl, HA, HK2, ⟨m2, rfl⟩⟩ := hrel
          cases gk with
          | zero => exact absurd HA.out (by simp [interlockref11_Head.l0])
          | succ k2 =>
            have H := HA.out
            clear HA
            simp only [interlockref11_Head.l0] at H
            replace H := Option.bind_eq_some_iff.mp H
            obtain ⟨t174, A60, H⟩ := H
            replace H : (if t174 = true then (some x1_2) else (interlockref11_Head.l0 k2 l0 (wrap64 (x1_2 - 1)))) = some r := H
            have A6 := Aside0.mk A60
            clear A60
            by_cases c7 : t174 = true
            · subst c7
              have H1 : (some x1_2) = some r := by rw [if_pos rfl] at H; exact H
              clear H
              have H := H1
              clear H1
              obtain rfl := Option.some.inj H
              go_wp2_with (first | ((with_reducible refine gate_callee (f := 24) rfl ?_); refine goesL_ (some 16) rfl rfl Try.func24 (by kernel_rfl) rfl #[.slice A0 l0.length c0, .int .i64 x1_2] rfl (by (try simp only [List.map_toArray, List.map_cons, List.map_nil]); first | done | rfl | (simp only [List.length_drop, List.length_take]; rfl)) ?_; (with_reducible refine (interlockref11_head.calls k2 _ _ l0 x1_2 true _ ?side1 ?side2 A6.out).mono ?_); (case side1 => repeat (first | exact HR0.out | (with_reducible refine Kd.C_alloc ?_ _) | (with_reducible refine Kd.C_drewN ?_ _) | (with_reducible refine Kd.C_drew ?_))); (case side2 => exact HC0.out); rintro e w' ⟨rfl, ⟨nd, rfl⟩⟩; refine ⟨_, rfl, ?_⟩))
              go_ret
              exact ⟨by first | rfl | (simp; done) | (simp [*]; done), by repeat (first | exact Drawn0.refl _ | apply Drawn0.step)⟩
            · replace c7 := Bool.eq_false_iff.mpr c7
              subst c7
              have H1 : (interlockref11_Head.l0 k2 l0 (wrap64 (x1_2 - 1))) = some r := by rw [if_neg (show ¬ (false = true) by decide)] at H; exact H
              clear H
              have H := H1
              clear H1
              have H' := Aside0.mk H
              clear H
              go_wp2_with (first | ((with_reducible refine gate_callee (f := 24) rfl ?_); refine goesL_ (some 16) rfl rfl Try.func24 (by kernel_rfl) rfl #[.slice A0 l0.length c0, .int .i64 x1_2] rfl (by (try simp only [List.map_toArray, List.map_cons, List.map_nil]); first | done | rfl | (simp only [List.length_drop, List.length_take]; rfl)) ?_; (with_reducible refine (interlockref11_head.calls k2 _ _ l0 x1_2 false _ ?side1 ?side2 A6.out).mono ?_); (case side1 => repeat (first | exact HR0.out | (with_reducible refine Kd.C_alloc ?_ _) | (with_reducible refine Kd.C_drewN ?_ _) | (with_reducible refine Kd.C_drew ?_))); (case side2 => exact HC0.out); rintro e w' ⟨rfl, ⟨nd, rfl⟩⟩; refine ⟨_, rfl, ?_⟩))
              go_roundg k2
              case measure => have := HJ2.out; have := HK2.out; omega
              case rel => exact ⟨(wrap64 (x1_2 - 1)), (by first | rfl | (simp; done) | (simp [*]; done)), H', ⟨by have := HJ2.out; have := HK2.out; omega⟩, by repeat (first | exact Drawn0.refl _ | apply Drawn0.step)⟩

/-! ### interlockref01_And: function 26 -/
def interlockref01_And.f (a0 : Int) (a1 : Int) : Option (Int) := some (Go.bits .and .u64 a0 a1)
set_option maxHeartbeats 8000000 in
set_option maxRecDepth 100000 in
theorem interlockref01_And.calls (a0 : Int) (a1 : Int) (r : Int) (w : World) (h : interlockref01_And.f a0 a1 = some r) :
    Calls Try.prog 26 #[.int .u64 a0, .int .u64 a1] w fun e w' => e = .returned (.int .u64 r) ∧ Drawn0 w w' := by
  have H : (some (Go.bits .and .u64 a0 a1)) = some r := h
  clear h
  obtain rfl := Option.some.inj H
  go_enter Try.func26, Try.ntmps26
  go_wp2
  go_ret
  exact ⟨by first | rfl | (simp; done) | (simp [*]; done), by repeat (first | exact Drawn0.refl _ | apply Drawn0.step)⟩

end Go.Proofs.Yticdodbnjlnjlaa.P
