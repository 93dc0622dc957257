-- written by this project's xprint.py (a turn of the kit's printer; its own texts among them)
import Derived.Test.YtbnkeddnibjncaaDoorPx0
namespace Go.Proofs.YtbnkeddnibjncaaDoor.P
open Go.RowKit Go.Proofs.YtbnkeddnibjncaaDoorW.PrintWords Go.Proofs.YtbnkeddnibjncaaDoorW.PrintLast Go.Proofs.YtbnkeddnibjncaaDoorW.PrintMore
attribute [local go_sem] max2_int min2_int max_two min_two max_three min_three max_four min_four   -- for this text's walks alone
attribute [local irreducible] Calls
set_option linter.unusedVariables false
set_option linter.unusedSimpArgs false

/-! ### interlockref10_without: function 26 -/
mutual
def interlockref10_without.j0 : Nat → List (List Int) → Int → List Bool → Bool → Option (List Bool)
  | 0, _, _, _, _ => none
  | k + 1, x0, x1, x5, x19 => if x19 = true then (if 0 < (x5.length : Int) then (interlockref10_without.j1 k x0 x1 (x5.set (0 : Int).toNat true)) else (none)) else (interlockref10_without.j1 k x0 x1 x5)
def interlockref10_without.j1 : Nat → List (List Int) → Int → List Bool → Option (List Bool)
  | 0, _, _, _ => none
  | k + 1, x0, x1, x5 => interlockref10_without.l0 k x0 x1 x5 true
def interlockref10_without.l0 : Nat → List (List Int) → Int → List Bool → Bool → Option (List Bool)
  | 0, _, _, _, _ => none
  | k + 1, x0, x1, x5, x6 => if x6 = true then (interlockref10_without.l1 k x0 x1 x5 false 0) else (some x5)
def interlockref10_without.l1 : Nat → List (List Int) → Int → List Bool → Bool → Int → Option (List Bool)
  | 0, _, _, _, _, _ => none
  | k + 1, x0, x1, x5, x6, x7 => if x7 < (x0.length : Int) then (interlockref10_without.l2 k x0 x1 x5 x6 x7 0) else (interlockref10_without.l0 k x0 x1 x5 x6)
def interlockref10_without.l2 : Nat → List (List Int) → Int → List Bool → Bool → Int → Int → Option (List Bool)
  | 0, _, _, _, _, _, _ => none
  | k + 1, x0, x1, x5, x6, x7, x8 => if 0 ≤ x7 then (if x7 < (x0.length : Int) then (if x8 < ((rd_L1 x0 x7).length : Int) then (if x7 < (x5.length : Int) then (interlockref10_without.j5 k x0 x1 x5 x6 x7 x8 (rdOf false x5 x7)) else (none)) else (interlockref10_without.j5 k x0 x1 x5 x6 x7 x8 false)) else (none)) else (none)
def interlockref10_without.j5 : Nat → List (List Int) → Int → List Bool → Bool → Int → Int → Bool → Option (List Bool)
  | 0, _, _, _, _, _, _, _ => none
  | k + 1, x0, x1, x5, x6, x7, x8, x41 => if x41 = true then (if 0 ≤ x7 then (if x7 < (x0.length : Int) then (if 0 ≤ x8 then (if x8 < ((rd_L1 x0 x7).length : Int) then (if (rd (rd_L1 x0 x7) x8) ≥ 0 then (if (rd (rd_L1 x0 x7) x8) < (x0.length : Int) then (if (rd (rd_L1 x0 x7) x8) = x1 then (interlockref10_without.l2 k x0 x1 x5 x6 x7 (wrap64 (x8 + 1))) else (if 0 ≤ (rd (rd_L1 x0 x7) x8) then (if (rd (rd_L1 x0 x7) x8) < (x5.length : Int) then (if (rdOf false x5 (rd (rd_L1 x0 x7) x8) = true) then (interlockref10_without.l2 k x0 x1 x5 x6 x7 (wrap64 (x8 + 1))) else (interlockref10_without.l2 k x0 x1 (x5.set ((rd (rd_L1 x0 x7) x8) : Int).toNat true) true x7 (wrap64 (x8 + 1)))) else (none)) else (none))) else (interlockref10_without.l2 k x0 x1 x5 x6 x7 (wrap64 (x8 + 1)))) else (interlockref10_without.l2 k x0 x1 x5 x6 x7 (wrap64 (x8 + 1)))) else (none)) else (none)) else (none)) else (none)) else (interlockref10_without.l1 k x0 x1 x5 x6 (wrap64 (x7 + 1)))
end
def interlockref10_without.f (k : Nat) (l0 : List (List Int)) (a1 : Int) : Option (List Bool) := if 0 ≤ (l0.length : Int) then (if ((l0.length : Int) : Int).toNat ≤ 281474976710656 then ((some (List.replicate ((l0.length : Int) : Int).toNat false : List Bool)).bind fun y149 => (if (l0.length : Int) > 0 then (interlockref10_without.j0 k l0 a1 y149 (a1 != 0)) else (interlockref10_without.j0 k l0 a1 y149 false))) else (none)) else (none)
theorem interlockref10_without.mono_l : ∀ k, (∀ y0 y1 y2 y3, LeO (interlockref10_without.j0 k y0 y1 y2 y3) (interlockref10_without.j0 (k + 1) y0 y1 y2 y3)) ∧ (∀ y0 y1 y2, LeO (interlockref10_without.j1 k y0 y1 y2) (interlockref10_without.j1 (k + 1) y0 y1 y2)) ∧ (∀ y0 y1 y2 y3, LeO (interlockref10_without.l0 k y0 y1 y2 y3) (interlockref10_without.l0 (k + 1) y0 y1 y2 y3)) ∧ (∀ y0 y1 y2 y3 y4, LeO (interlockref10_without.l1 k y0 y1 y2 y3 y4) (interlockref10_without.l1 (k + 1) y0 y1 y2 y3 y4)) ∧ (∀ y0 y1 y2 y3 y4 y5, LeO (interlockref10_without.l2 k y0 y1 y2 y3 y4 y5) (interlockref10_without.l2 (k + 1) y0 y1 y2 y3 y4 y5)) ∧ (∀ y0 y1 y2 y3 y4 y5 y6, LeO (interlockref10_without.j5 k y0 y1 y2 y3 y4 y5 y6) (interlockref10_without.j5 (k + 1) y0 y1 y2 y3 y4 y5 y6))
  | 0 => ⟨fun _ _ _ _ r h => by simp [interlockref10_without.j0] at h, fun _ _ _ r h => by simp [interlockref10_without.j1] at h, fun _ _ _ _ r h => by simp [interlockref10_without.l0] at h, fun _ _ _ _ _ r h => by simp [interlockref10_without.l1] at h, fun _ _ _ _ _ _ r h => by simp [interlockref10_without.l2] at h, fun _ _ _ _ _ _ _ r h => by simp [interlockref10_without.j5] at h⟩
  | k + 1 => by
    obtain ⟨ih0, ih1, ih2, ih3, ih4, ih5⟩ := interlockref10_without.mono_l k
    refine ⟨?_, ?_, ?_, ?_, ?_, ?_⟩
    · intro y0 y1 y2 y3
      unfold interlockref10_without.j0
      repeat' first
      | (with_reducible exact ih0 _ _ _ _)
      | (with_reducible exact ih1 _ _ _)
      | (with_reducible exact ih2 _ _ _ _)
      | (with_reducible exact ih3 _ _ _ _ _)
      | (with_reducible exact ih4 _ _ _ _ _ _)
      | (with_reducible exact ih5 _ _ _ _ _ _ _)
      | (with_reducible exact LeO.refl _)
      | (with_reducible exact LeO.none _)
      | (with_reducible refine LeO.ite ?_ ?_)
      | (with_reducible refine LeO.bind ?_ (fun _ => ?_))
      | exact ih0 _ _ _ _
      | exact ih1 _ _ _
      | exact ih2 _ _ _ _
      | exact ih3 _ _ _ _ _
      | exact ih4 _ _ _ _ _ _
      | exact ih5 _ _ _ _ _ _ _
      | exact LeO.none _
      | refine LeO.ite ?_ ?_
      | refine LeO.bind ?_ (fun _ => ?_)
    · intro y0 y1 y2
      unfold interlockref10_without.j1
      repeat' first
      | (with_reducible exact ih0 _ _ _ _)
      | (with_reducible exact ih1 _ _ _)
      | (with_reducible exact ih2 _ _ _ _)
      | (with_reducible exact ih3 _ _ _ _ _)
      | (with_reducible exact ih4 _ _ _ _ _ _)
      | (with_reducible exact ih5 _ _ _ _ _ _ _)
      | (with_reducible exact LeO.refl _)
      | (with_reducible exact LeO.none _)
      | (with_reducible refine LeO.ite ?_ ?_)
      | (with_reducible refine LeO.bind ?_ (fun _ => ?_))
      | exact ih0 _ _ _ _
      | exact ih1 _ _ _
      | exact ih2 _ _ _ _
      | exact ih3 _ _ _ _ _
      | exact ih4 _ _ _ _ _ _
      | exact ih5 _ _ _ _ _ _ _
      | exact LeO.none _
      | refine LeO.ite ?_ ?_
      | refine LeO.bind ?_ (fun _ => ?_)
    · intro y0 y1 y2 y3
      unfold interlockref10_without.l0
      repeat' first
      | (with_reducible exact ih0 _ _ _ _)
      | (with_reducible exact ih1 _ _ _)
      | (with_reducible exact ih2 _ _ _ _)
      | (with_reducible exact ih3 _ _ _ _ _)
      | (with_reducible exact ih4 _ _ _ _ _ _)
      | (with_reducible exact ih5 _ _ _ _ _ _ _)
      | (with_reducible exact LeO.refl _)
      | (with_reducible exact LeO.none _)
      | (with_reducible refine LeO.ite ?_ ?_)
      | (with_reducible refine LeO.bind ?_ (fun _ => ?_))
      | exact ih0 _ _ _ _
      | exact ih1 _ _ _
      | exact ih2 _ _ _ _
      | exact ih3 _ _ _ _ _
      | exact ih4 _ _ _ _ _ _
      | exact ih5 _ _ _ _ _ _ _
      | exact LeO.none _
      | refine LeO.ite ?_ ?_
      | refine LeO.bind ?_ (fun _ => ?_)
    · intro y0 y1 y2 y3 y4
      unfold interlockref10_without.l1
      repeat' first
      | (with_reducible exact ih0 _ _ _ _)
      | (with_reducible exact ih1 _ _ _)
      | (with_reducible exact ih2 _ _ _ _)
      | (with_reducible exact ih3 _ _ _ _ _)
      | (with_reducible exact ih4 _ _ _ _ _ _)
      | (with_reducible exact ih5 _ _ _ _ _ _ _)
      | (with_reducible exact LeO.refl _)
      | (with_reducible exact LeO.none _)
      | (with_reducible refine LeO.ite ?_ ?_)
      | (with_reducible refine LeO.bind ?_ (fun _ => ?_))
      | exact ih0 _ _ _ _
      | exact ih1 _ _ _
      | exact ih2 _ _ _ _
      | exact ih3 _ _ _ _ _
      | exact ih4 _ _ _ _ _ _
      | exact ih5 _ _ _ _ _ _ _
      | exact LeO.none _
      | refine LeO.ite ?_ ?_
      | refine LeO.bind ?_ (fun _ => ?_)
    · intro y0 y1 y2 y3 y4 y5
      unfold interlockref10_without.l2
      repeat' first
      | (with_reducible exact ih0 _ _ _ _)
      | (with_reducible exact ih1 _ _ _)
      | (with_reducible exact ih2 _ _ _ _)
      | (with_reducible exact ih3 _ _ _ _ _)
      | (with_reducible exact ih4 _ _ _ _ _ _)
      | (with_reducible exact ih5 _ _ _ _ _ _ _)
      | (with_reducible exact LeO.refl _)
      | (with_reducible exact LeO.none _)
      | (with_reducible refine LeO.ite ?_ ?_)
      | (with_reducible refine LeO.bind ?_ (fun _ => ?_))
      | exact ih0 _ _ _ _
      | exact ih1 _ _ _
      | exact ih2 _ _ _ _
      | exact ih3 _ _ _ _ _
      | exact ih4 _ _ _ _ _ _
      | exact ih5 _ _ _ _ _ _ _
      | exact LeO.none _
      | refine LeO.ite ?_ ?_
      | refine LeO.bind ?_ (fun _ => ?_)
    · intro y0 y1 y2 y3 y4 y5 y6
      unfold interlockref10_without.j5
      repeat' first
      | (with_reducible exact ih0 _ _ _ _)
      | (with_reducible exact ih1 _ _ _)
      | (with_reducible exact ih2 _ _ _ _)
      | (with_reducible exact ih3 _ _ _ _ _)
      | (with_reducible exact ih4 _ _ _ _ _ _)
      | (with_reducible exact ih5 _ _ _ _ _ _ _)
      | (with_reducible exact LeO.refl _)
      | (with_reducible exact LeO.none _)
      | (with_reducible refine LeO.ite ?_ ?_)
      | (with_reducible refine LeO.bind ?_ (fun _ => ?_))
      | exact ih0 _ _ _ _
      | exact ih1 _ _ _
      | exact ih2 _ _ _ _
      | exact ih3 _ _ _ _ _
      | exact ih4 _ _ _ _ _ _
      | exact ih5 _ _ _ _ _ _ _
      | exact LeO.none _
      | refine LeO.ite ?_ ?_
      | refine LeO.bind ?_ (fun _ => ?_)
theorem interlockref10_without.mono : ∀ a0 a1 k, LeO (interlockref10_without.f k a0 a1) (interlockref10_without.f (k + 1) a0 a1) := by
  intro a0 a1 k
  obtain ⟨ih0, ih1, ih2, ih3, ih4, ih5⟩ := interlockref10_without.mono_l k
  unfold interlockref10_without.f
  repeat' first
      | (with_reducible exact ih0 _ _ _ _)
      | (with_reducible exact ih1 _ _ _)
      | (with_reducible exact ih2 _ _ _ _)
      | (with_reducible exact ih3 _ _ _ _ _)
      | (with_reducible exact ih4 _ _ _ _ _ _)
      | (with_reducible exact ih5 _ _ _ _ _ _ _)
      | (with_reducible exact LeO.refl _)
      | (with_reducible exact LeO.none _)
      | (with_reducible refine LeO.ite ?_ ?_)
      | (with_reducible refine LeO.bind ?_ (fun _ => ?_))
      | exact ih0 _ _ _ _
      | exact ih1 _ _ _
      | exact ih2 _ _ _ _
      | exact ih3 _ _ _ _ _
      | exact ih4 _ _ _ _ _ _
      | exact ih5 _ _ _ _ _ _ _
      | exact LeO.none _
      | refine LeO.ite ?_ ?_
      | refine LeO.bind ?_ (fun _ => ?_)
set_option maxHeartbeats 8000000 in
set_option maxRecDepth 100000 in
theorem interlockref10_without.calls (k : Nat) (A0 : Option Addr) (c0 : Nat) (l0 : List (List Int)) (a1 : Int) (r : List Bool) (w : World) (hr0 : Kd.C (Kd.slice 3 (Kd.int .i64)) w A0 l0.length l0) (hc0 : l0.length ≤ c0) (h : interlockref10_without.f k l0 a1 = some r) :
    Calls Tryd.prog 26 #[.slice A0 l0.length c0, .int .i64 a1] w fun e w' => ∃ v0_ : Value, e = .returned (v0_) ∧ Kd.R Kd.bool 4 w' w.heap.size (fun _ => True) v0_ r ∧ Below w.heap.size w w' := by
 have HR0 := Aside0.mk hr0
 have HC0 := Aside0.mk hc0
 clear hr0 hc0
 have HB := Aside0.mk (Below.refl w.heap.size w)
 have H : (if 0 ≤ (l0.length : Int) then (if ((l0.length : Int) : Int).toNat ≤ 281474976710656 then ((some (List.replicate ((l0.length : Int) : Int).toNat false : List Bool)).bind fun y149 => (if (l0.length : Int) > 0 then (interlockref10_without.j0 k l0 a1 y149 (a1 != 0)) else (interlockref10_without.j0 k l0 a1 y149 false))) else (none)) else (none)) = some r := h
 clear h
 by_cases c3 : 0 ≤ (l0.length : Int)
 {
 rw [if_pos c3] at H
 have c3b0 := eq_true c3
 have c3b1 : decide (0 ≤ (l0.length : Int)) = true := decide_eq_true c3
 clear c3
 by_cases c4 : ((l0.length : Int) : Int).toNat ≤ 281474976710656
 {
 rw [if_pos c4] at H
 have c4b0 := eq_true c4
 have c4b1 : decide (((l0.length : Int) : Int).toNat ≤ 281474976710656) = true := decide_eq_true c4
 clear c4
 obtain ⟨y149, hy149⟩ : ∃ y_ : List Bool, y_ = (List.replicate ((l0.length : Int) : Int).toNat false) := ⟨_, rfl⟩
 replace H : (if (l0.length : Int) > 0 then (interlockref10_without.j0 k l0 a1 y149 (a1 != 0)) else (interlockref10_without.j0 k l0 a1 y149 false)) = some r := by first | (rw [hy149]; with_reducible exact H) | (have H2_ := (Option.bind_some _ _).symm.trans H; rw [hy149]; with_reducible exact H2_) | (have H2_ := (Option.bind_some _ _).symm.trans H; with_reducible exact H2_) | with_reducible exact H | (rw [hy149]; exact H) | exact H
 have Ny149 := Aside0.mk hy149
 clear hy149
 have HC5 := Aside0.mk H
 clear H
 go_enter Tryd.func26, Tryd.ntmps26
 go_upto_region 2 with (first | ((with_reducible refine gate_dst (N := 12) rfl ?_); (try (refine gate_guard (by rfl) ?_; dsimp only)); refine Kd.R_make Kd.bool _ 4 rfl (N := 12) rfl 29 _ _ rfl (l0.length : Int) rfl rfl Tryd.underlying29 (.bool false) 1 info4 rfl (by decide) (by omega) false (ok := fun _ => True) (okp := fun _ => True) rfl (fun _ hk => hk) trivial (of_decide_eq_true (by first | (with_reducible assumption) | assumption)) (Nat.le_trans (Nat.mul_le_mul_right _ (of_decide_eq_true (by first | (with_reducible assumption) | assumption) : (l0.length : Int).toNat ≤ 281474976710656)) (by omega)) (Below.refl _ _) (Nat.le_refl _) ?_; intro v150 w6 ho7 hb hg_ hnew_; clear hg_ hnew_; (first | rw [← Ny149.out] at ho7 | (simp only [Int.reduceToNat] at ho7; rw [← Ny149.out] at ho7)); have n0_ := Aside0.mk (Kd.R_lower ho7 (below_size (by repeat (first | (with_reducible first | exact HB.out | apply below_alloc | apply pw_below_drewN | apply below_drew1) | exact HB.out)))); have n1_ := Aside0.mk (below_step (by repeat (first | (with_reducible first | exact HB.out | apply below_alloc | apply pw_below_drewN | apply below_drew1) | exact HB.out)) hb); clear HB; have HO151 := n0_; have HB := n1_; clear n0_ n1_; clear hb ho7))
 (try simp only [Act.put, sT_, sZ_, sS_])
 go_cut [19] (fun v19 wc => ∃ (kq : Nat) (x19_4 : Bool), v19 = .bool x19_4 ∧ Aside0 (interlockref10_without.j0 kq l0 a1 y149 x19_4 = some r) ∧ Aside0 (kq ≤ k) ∧ Aside0 (Kd.R Kd.bool 4 wc w.heap.size (fun _ => True) v150 y149) ∧ Aside0 (Below w.heap.size w wc))
 case first => (
 have H := HC5.out
 clear HC5
 by_cases c8 : (l0.length : Int) > 0
 {
 rw [if_pos c8] at H
 have c8b0 : decide (0 < (l0.length : Int)) = true := decide_eq_true c8
 have c8b1 : decide (0 < l0.length) = true := decide_eq_true (by omega)
 clear c8
 (first | rw [c8b0] | (simp only [i64_w, i32_w]; rw [c8b0]) | skip)
 have H' := Aside0.mk H
 clear H
 go_wp2
 go_meet
 case rel => exact ⟨_, ((a1 != 0)), (by first | rfl | (simp; done) | (simp [*]; done)), H', ⟨by first | omega | exact Nat.le_refl _⟩, ⟨by (with_reducible repeat (first | apply Kd.R_alloc | apply Kd.R_drewN | apply Kd.R_drew)); exact HO151.out⟩, ⟨by repeat (first | (with_reducible first | exact HB.out | apply below_alloc | apply pw_below_drewN | apply below_drew1) | exact HB.out)⟩⟩
 }
 {
 rw [if_neg c8] at H
 have c8b0 : decide (0 < (l0.length : Int)) = false := decide_eq_false c8
 have c8b1 : decide (0 < l0.length) = false := decide_eq_false (by omega)
 clear c8
 (first | rw [c8b0] | (simp only [i64_w, i32_w]; rw [c8b0]) | skip)
 have H' := Aside0.mk H
 clear H
 go_wp2
 go_meet
 case rel => exact ⟨_, (false), (by first | rfl | (simp; done) | (simp [*]; done)), H', ⟨by first | omega | exact Nat.le_refl _⟩, ⟨by (with_reducible repeat (first | apply Kd.R_alloc | apply Kd.R_drewN | apply Kd.R_drew)); exact HO151.out⟩, ⟨by repeat (first | (with_reducible first | exact HB.out | apply below_alloc | apply pw_below_drewN | apply below_drew1) | exact HB.out)⟩⟩
 }
 )
 case rest => (
 clear HC5
 try clear c2
 try clear p2
 try clear c3
 try clear c3b0
 try clear c3b1
 try clear c4
 try clear c4b0
 try clear c4b1
 try clear c8
 try clear c8b0
 try clear c8b1
 obtain ⟨kq, x19_4, rfl, HA, HJ4, HO_5, HB⟩ := hcut
 cases kq with
 | zero => exact absurd HA.out (by simp [interlockref10_without.j0])
 | succ kj4 => (
 have H := HA.out
 clear HA
 simp only [interlockref10_without.j0] at H
 have HC9 := Aside0.mk H
 clear H
 go_upto_if 19 with (fail)
 go_cut [] (fun wc => ∃ (kq : Nat) (x5_8 : List Bool), Aside0 (interlockref10_without.j1 kq l0 a1 x5_8 = some r) ∧ Aside0 (kq ≤ kj4) ∧ Aside0 (Kd.R Kd.bool 4 wc w.heap.size (fun _ => True) v150 x5_8) ∧ Aside0 (Below w.heap.size w wc))
 case first => (
 have H := HC9.out
 clear HC9
 by_cases c10 : x19_4 = true
 {
 subst c10
 have H1 : (if 0 < (y149.length : Int) then (interlockref10_without.j1 kj4 l0 a1 (y149.set (0 : Int).toNat true)) else (none)) = some r := by rw [if_pos rfl] at H; exact H
 clear H
 have H := H1
 clear H1
 by_cases c11 : 0 < (y149.length : Int)
 {
 rw [if_pos c11] at H
 have c11b0 : decide (0 < (y149.length : Int)) = true := decide_eq_true c11
 have c11b1 : decide (0 < y149.length) = true := decide_eq_true (by omega)
 clear c11
 (first | rw [c11b0] | (simp only [i64_w, i32_w]; rw [c11b0]) | skip)
 obtain ⟨y152, hy152⟩ : ∃ y_ : List Bool, y_ = (y149.set (0 : Int).toNat true) := ⟨_, rfl⟩
 replace H : (interlockref10_without.j1 kj4 l0 a1 y152) = some r := by first | (rw [hy152]; with_reducible exact H) | (have H2_ := (Option.bind_some _ _).symm.trans H; rw [hy152]; with_reducible exact H2_) | (have H2_ := (Option.bind_some _ _).symm.trans H; with_reducible exact H2_) | with_reducible exact H | (rw [hy152]; exact H) | exact H
 have Ny152 := Aside0.mk hy152
 clear hy152
 have H' := Aside0.mk H
 clear H
 have p12 : 0 ≤ (0 : Int) := (by omega)
 have q12 : (0 : Int) < ((y149.length : Int) : Int) := of_decide_eq_true (by first | (with_reducible assumption) | assumption)
 have qi12 : (0 < y149.length) = True := eq_true (by omega)
 obtain ⟨go12, co12, eo12, gb12, gl12, cl12, HG12⟩ := Kd.R_form HO_5.out (by omega)
 (first | cases eo12 | (injection eo12 with ea_ en_ ec_; (first | subst ea_ | (injection ea_ with ea_; subst ea_)); subst ec_; clear en_))
 have GB12 := Aside0.mk gb12
 have GG12 := Aside0.mk HG12
 clear gb12 gl12 HG12
 obtain ⟨hx12_0, hf12_0⟩ := Kd.R_celln false HO_5.out (0 : Int) p12 q12
 (try rw [show ((0 : Int)).toNat = 0 from rfl] at hx12_0)
 (try simp only [Nat.reduceMul, Nat.zero_mul, Nat.zero_add, Nat.reduceAdd] at hx12_0)
 (try rw [show ((0 : Int)).toNat = 0 from rfl] at hf12_0)
 (try simp only [Nat.reduceMul, Nat.zero_mul, Nat.zero_add, Nat.reduceAdd] at hf12_0)
 replace p12 := eq_true p12
 replace q12 := eq_true q12
 have HP13 := Kd.R_putg HO_5.out (0 : Int) true
 go_wp2_with (first | ((with_reducible refine gate_store (t := 4) (p := 21) rfl ?_); refine store_event (t := 4) (p := 21) (v := ?vo_w14) (w1 := (wc.setCell ⟨go12, (0 : Int).toNat, none⟩ (.bool true))) ?hg ?ho ?hn ?hr ?_; (case ho => rfl); (case hg => rfl); (case hn => rfl); (case hr => first | (go_simp; done) | (go_simp; rfl)); intro w14 hw; have hg : wc.grownBy w14 (some go12) := (by rw [hw]; exact HP13.2); have hp_ : Kd.R Kd.bool 4 w14 w.heap.size (fun _ => True) (.slice (some ⟨go12, 0, none⟩) y149.length co12) y152 := (by rw [hw, Ny152.out]; exact HP13.1); clear HP13; have n0_ := Aside0.mk (hp_); have n1_ := Aside0.mk ((by rw [hw]; exact below_set (HB.out) GB12.out : Below w.heap.size w w14)); clear HO_5; clear HB; have HO_5 := n0_; have HB := n1_; clear n0_ n1_; clear hg hw hp_))
 go_meet
 case rel => exact ⟨_, (y152), H', ⟨by have := HJ4.out; first | omega | exact Nat.le_refl _⟩, ⟨by (with_reducible repeat (first | apply Kd.R_alloc | apply Kd.R_drewN | apply Kd.R_drew)); exact HO_5.out⟩, ⟨by repeat (first | (with_reducible first | exact HB.out | apply below_alloc | apply pw_below_drewN | apply below_drew1) | exact HB.out)⟩⟩
 }
 {
 rw [if_neg c11] at H
 exact absurd H (by simp)
 }
 }
 {
 replace c10 := Bool.eq_false_iff.mpr c10
 subst c10
 have H1 : (interlockref10_without.j1 kj4 l0 a1 y149) = some r := by rw [if_neg (show ¬ (false = true) by decide)] at H; exact H
 clear H
 have H := H1
 clear H1
 have H' := Aside0.mk H
 clear H
 go_wp2
 go_meet
 case rel => exact ⟨_, (y149), H', ⟨by have := HJ4.out; first | omega | exact Nat.le_refl _⟩, ⟨by (with_reducible repeat (first | apply Kd.R_alloc | apply Kd.R_drewN | apply Kd.R_drew)); exact HO_5.out⟩, ⟨by repeat (first | (with_reducible first | exact HB.out | apply below_alloc | apply pw_below_drewN | apply below_drew1) | exact HB.out)⟩⟩
 }
 )
 case rest => (
 clear HC9
 try clear c1
 try clear p1
 try clear q1
 try clear hx1
 try clear qi1
 try clear c2
 try clear p2
 try clear c3
 try clear c3b0
 try clear c3b1
 try clear c4
 try clear c4b0
 try clear c4b1
 try clear c8
 try clear c8b0
 try clear c8b1
 try clear c10
 try clear c11
 try clear c11b0
 try clear c11b1
 try clear p12
 try clear q12
 try clear hx12
 try clear qi12
 try clear hf12
 try clear hx12_0
 try clear p12
 try clear p2
 try clear q12
 obtain ⟨kq, x5_8, HA, HJ8, HO_5, HB⟩ := hcut
 cases kq with
 | zero => exact absurd HA.out (by simp [interlockref10_without.j1])
 | succ kj8 => (
 have H := HA.out
 clear HA
 simp only [interlockref10_without.j1] at H
 have H' := Aside0.mk H
 clear H
 go_wp2
 go_loopg [6] kj8 (fun kq v6 w' => ∃ (x5_3 : List Bool) (x6_3 : Bool), v6 = .bool x6_3 ∧ Aside0 (interlockref10_without.l0 kq l0 a1 x5_3 x6_3 = some r) ∧ Aside0 (kq ≤ kj8) ∧ Aside0 (Kd.R Kd.bool 4 w' w.heap.size (fun _ => True) v150 x5_3) ∧ Aside0 (Below w.heap.size w w'))
 case atStart => exact ⟨(x5_8), (true), (by first | rfl | (simp; done) | (simp [*]; done)), H', ⟨Nat.le_refl _⟩, ⟨by (with_reducible repeat (first | apply Kd.R_alloc | apply Kd.R_drewN | apply Kd.R_drew)); exact HO_5.out⟩, ⟨by repeat (first | (with_reducible first | exact HB.out | apply below_alloc | apply pw_below_drewN | apply below_drew1) | exact HB.out)⟩⟩
 case round => (
 clear H'
 try clear c1
 try clear p1
 try clear q1
 try clear hx1
 try clear qi1
 try clear c2
 try clear p2
 try clear c3
 try clear c3b0
 try clear c3b1
 try clear c4
 try clear c4b0
 try clear c4b1
 try clear c8
 try clear c8b0
 try clear c8b1
 try clear c10
 try clear c11
 try clear c11b0
 try clear c11b1
 try clear p12
 try clear q12
 try clear hx12
 try clear qi12
 try clear hf12
 try clear hx12_0
 try clear p1
 try clear p12
 try clear p2
 try clear q1
 try clear q12
 obtain ⟨x5_3, x6_3, rfl, HA, HK3, HO_5, HB⟩ := hrel
 cases gk with
 | zero => exact absurd HA.out (by simp [interlockref10_without.l0])
 | succ k3 => (
 have H := HA.out
 clear HA
 simp only [interlockref10_without.l0] at H
 by_cases c15 : x6_3 = true
 {
 subst c15
 have H1 : (interlockref10_without.l1 k3 l0 a1 x5_3 false 0) = some r := by rw [if_pos rfl] at H; exact H
 clear H
 have H := H1
 clear H1
 have H' := Aside0.mk H
 clear H
 go_wp2
 go_loopg [6, 7] k3 (fun kq v6 v7 w' => ∃ (x5_4 : List Bool) (x6_4 : Bool) (x7_4 : Int), v6 = .bool x6_4 ∧ v7 = .int .i64 x7_4 ∧ Aside0 (interlockref10_without.l1 kq l0 a1 x5_4 x6_4 x7_4 = some r) ∧ Aside0 (kq ≤ k3) ∧ Aside0 (Kd.R Kd.bool 4 w' w.heap.size (fun _ => True) v150 x5_4) ∧ Aside0 (Below w.heap.size w w'))
 case atStart => exact ⟨(x5_3), (false), (0), (by first | rfl | (simp; done) | (simp [*]; done)), (by first | rfl | (simp; done) | (simp [*]; done)), H', ⟨Nat.le_refl _⟩, ⟨by (with_reducible repeat (first | apply Kd.R_alloc | apply Kd.R_drewN | apply Kd.R_drew)); exact HO_5.out⟩, ⟨by repeat (first | (with_reducible first | exact HB.out | apply below_alloc | apply pw_below_drewN | apply below_drew1) | exact HB.out)⟩⟩
 case round => (
 clear H'
 try clear c1
 try clear p1
 try clear q1
 try clear hx1
 try clear qi1
 try clear c2
 try clear p2
 try clear c3
 try clear c3b0
 try clear c3b1
 try clear c4
 try clear c4b0
 try clear c4b1
 try clear c8
 try clear c8b0
 try clear c8b1
 try clear c10
 try clear c11
 try clear c11b0
 try clear c11b1
 try clear p12
 try clear q12
 try clear hx12
 try clear qi12
 try clear hf12
 try clear c15
 try clear hx12_0
 try clear p1
 try clear p12
 try clear p2
 try clear q1
 try clear q12
 obtain ⟨x5_4, x6_4, x7_4, rfl, rfl, HA, HK4, HO_5, HB⟩ := hrel
 cases gk with
 | zero => exact absurd HA.out (by simp [interlockref10_without.l1])
 | succ k4 => (
 have H := HA.out
 clear HA
 simp only [interlockref10_without.l1] at H
 by_cases c16 : x7_4 < (l0.length : Int)
 {
 rw [if_pos c16] at H
 have c16b0 : decide (x7_4 < (l0.length : Int)) = true := decide_eq_true c16
 clear c16
 have H' := Aside0.mk H
 clear H
 go_wp2
 go_loopg [6, 8] k4 (fun kq v6 v8 w' => ∃ (x5_5 : List Bool) (x6_5 : Bool) (x8_5 : Int), v6 = .bool x6_5 ∧ v8 = .int .i64 x8_5 ∧ Aside0 (interlockref10_without.l2 kq l0 a1 x5_5 x6_5 x7_4 x8_5 = some r) ∧ Aside0 (kq ≤ k4) ∧ Aside0 (Kd.R Kd.bool 4 w' w.heap.size (fun _ => True) v150 x5_5) ∧ Aside0 (Below w.heap.size w w'))
 case atStart => exact ⟨(x5_4), (x6_4), (0), (by first | rfl | (simp; done) | (simp [*]; done)), (by first | rfl | (simp; done) | (simp [*]; done)), H', ⟨Nat.le_refl _⟩, ⟨by (with_reducible repeat (first | apply Kd.R_alloc | apply Kd.R_drewN | apply Kd.R_drew)); exact HO_5.out⟩, ⟨by repeat (first | (with_reducible first | exact HB.out | apply below_alloc | apply pw_below_drewN | apply below_drew1) | exact HB.out)⟩⟩
 case round => (
 clear H'
 try clear c1
 try clear p1
 try clear q1
 try clear hx1
 try clear qi1
 try clear c2
 try clear p2
 try clear c3
 try clear c3b0
 try clear c3b1
 try clear c4
 try clear c4b0
 try clear c4b1
 try clear c8
 try clear c8b0
 try clear c8b1
 try clear c10
 try clear c11
 try clear c11b0
 try clear c11b1
 try clear p12
 try clear q12
 try clear hx12
 try clear qi12
 try clear hf12
 try clear c15
 try clear c16
 try clear c16b0
 try clear hx12_0
 try clear p1
 try clear p12
 try clear p2
 try clear q1
 try clear q12
 obtain ⟨x5_5, x6_5, x8_5, rfl, rfl, HA, HK5, HO_5, HB⟩ := hrel
 cases gk with
 | zero => exact absurd HA.out (by simp [interlockref10_without.l2])
 | succ k5 => (
 have H := HA.out
 clear HA
 simp only [interlockref10_without.l2] at H
 have HC17 := Aside0.mk H
 clear H
 go_upto_region 11 with (fail)
 go_cut [41] (fun v41 wc => ∃ (kq : Nat) (x41_16 : Bool), v41 = .bool x41_16 ∧ Aside0 (interlockref10_without.j5 kq l0 a1 x5_5 x6_5 x7_4 x8_5 x41_16 = some r) ∧ Aside0 (kq ≤ k5) ∧ Aside0 (Kd.R Kd.bool 4 wc w.heap.size (fun _ => True) v150 x5_5) ∧ Aside0 (Below w.heap.size w wc))
 case first => (
 have H := HC17.out
 clear HC17
 by_cases c18 : 0 ≤ x7_4
 {
 rw [if_pos c18] at H
 have c18b0 : decide (0 ≤ x7_4) = true := decide_eq_true c18
 clear c18
 (first | rw [c18b0] | (simp only [i64_w, i32_w]; rw [c18b0]) | skip)
 by_cases c19 : x7_4 < (l0.length : Int)
 {
 rw [if_pos c19] at H
 have c19b0 : decide (x7_4 < (l0.length : Int)) = true := decide_eq_true c19
 clear c19
 by_cases c20 : x8_5 < ((rd_L1 l0 x7_4).length : Int)
 {
 rw [if_pos c20] at H
 have c20b0 : decide (x8_5 < ((rd_L1 l0 x7_4).length : Int)) = true := decide_eq_true c20
 clear c20
 by_cases c21 : x7_4 < (x5_5.length : Int)
 {
 rw [if_pos c21] at H
 have c21b0 : decide (x7_4 < (x5_5.length : Int)) = true := decide_eq_true c21
 clear c21
 have H' := Aside0.mk H
 clear H
 have p153 : 0 ≤ (x7_4 : Int) := of_decide_eq_true (by first | (with_reducible assumption) | assumption)
 have q153 : x7_4 < (l0.length : Int) := of_decide_eq_true (by first | (with_reducible assumption) | assumption)
 obtain ⟨ad153, A153_0, c153_0, e153, hx153_0, hl153_0, hi153_0⟩ := at_L1 HR0.out x7_4 p153 q153
 cases e153
 replace hx153_0 := (HB.out.cell (World.block_lt_of_cell? w _ hx153_0)).trans hx153_0
 have HR153_0 := Aside0.mk hi153_0
 have HC153_0 := Aside0.mk hl153_0
 clear hi153_0 hl153_0
 replace p153 := eq_true p153
 replace q153 := eq_true q153
 obtain ⟨Ao22, co22, eo22⟩ := Kd.R_slice HO_5.out
 subst eo22
 have p154 : 0 ≤ (x7_4 : Int) := of_decide_eq_true (by first | (with_reducible assumption) | assumption)
 have q154 : x7_4 < (x5_5.length : Int) := of_decide_eq_true (by first | (with_reducible assumption) | assumption)
 obtain ⟨ad154, e154, hx154_0⟩ := Kd.at_bool (Kd.R_reads' HO_5.out).2.2 x7_4 p154 q154
 cases e154
 replace p154 := eq_true p154
 replace q154 := eq_true q154
 go_wp2
 go_meet
 case rel => exact ⟨_, (rdOf false x5_5 x7_4), (by first | rfl | (simp; done) | (simp [*]; done)), H', ⟨by have := HJ4.out; have := HJ8.out; have := HK3.out; have := HK4.out; have := HK5.out; first | omega | exact Nat.le_refl _⟩, ⟨by (with_reducible repeat (first | apply Kd.R_alloc | apply Kd.R_drewN | apply Kd.R_drew)); exact HO_5.out⟩, ⟨by repeat (first | (with_reducible first | exact HB.out | apply below_alloc | apply pw_below_drewN | apply below_drew1) | exact HB.out)⟩⟩
 }
 {
 rw [if_neg c21] at H
 exact absurd H (by simp)
 }
 }
 {
 rw [if_neg c20] at H
 have c20b0 : decide (x8_5 < ((rd_L1 l0 x7_4).length : Int)) = false := decide_eq_false c20
 clear c20
 have H' := Aside0.mk H
 clear H
 have p153 : 0 ≤ (x7_4 : Int) := of_decide_eq_true (by first | (with_reducible assumption) | assumption)
 have q153 : x7_4 < (l0.length : Int) := of_decide_eq_true (by first | (with_reducible assumption) | assumption)
 obtain ⟨ad153, A153_0, c153_0, e153, hx153_0, hl153_0, hi153_0⟩ := at_L1 HR0.out x7_4 p153 q153
 cases e153
 replace hx153_0 := (HB.out.cell (World.block_lt_of_cell? w _ hx153_0)).trans hx153_0
 have HR153_0 := Aside0.mk hi153_0
 have HC153_0 := Aside0.mk hl153_0
 clear hi153_0 hl153_0
 replace p153 := eq_true p153
 replace q153 := eq_true q153
 go_wp2
 go_meet
 case rel => exact ⟨_, (false), (by first | rfl | (simp; done) | (simp [*]; done)), H', ⟨by have := HJ4.out; have := HJ8.out; have := HK3.out; have := HK4.out; have := HK5.out; first | omega | exact Nat.le_refl _⟩, ⟨by (with_reducible repeat (first | apply Kd.R_alloc | apply Kd.R_drewN | apply Kd.R_drew)); exact HO_5.out⟩, ⟨by repeat (first | (with_reducible first | exact HB.out | apply below_alloc | apply pw_below_drewN | apply below_drew1) | exact HB.out)⟩⟩
 }
 }
 {
 rw [if_neg c19] at H
 exact absurd H (by simp)
 }
 }
 {
 rw [if_neg c18] at H
 exact absurd H (by simp)
 }
 )
 case rest => (
 clear HC17
 try clear c1
 try clear p1
 try clear q1
 try clear hx1
 try clear qi1
 try clear c2
 try clear p2
 try clear c3
 try clear c3b0
 try clear c3b1
 try clear c4
 try clear c4b0
 try clear c4b1
 try clear c8
 try clear c8b0
 try clear c8b1
 try clear c10
 try clear c11
 try clear c11b0
 try clear c11b1
 try clear p12
 try clear q12
 try clear hx12
 try clear qi12
 try clear hf12
 try clear c15
 try clear p15
 try clear q15
 try clear hx15
 try clear c16
 try clear c16b0
 try clear c18
 try clear c18b0
 try clear c19
 try clear c19b0
 try clear c20
 try clear c20b0
 try clear c21
 try clear c21b0
 try clear hx12_0
 try clear hx153_0
 try clear hx154_0
 try clear p1
 try clear p12
 try clear p153
 try clear p154
 try clear p2
 try clear q1
 try clear q12
 try clear q153
 try clear q154
 obtain ⟨kq, x41_16, rfl, HA, HJ16, HO_5, HB⟩ := hcut
 cases kq with
 | zero => exact absurd HA.out (by simp [interlockref10_without.j5])
 | succ kj16 => (
 have H := HA.out
 clear HA
 simp only [interlockref10_without.j5] at H
 by_cases c23 : x41_16 = true
 {
 subst c23
 have H1 : (if 0 ≤ x7_4 then (if x7_4 < (l0.length : Int) then (if 0 ≤ x8_5 then (if x8_5 < ((rd_L1 l0 x7_4).length : Int) then (if (rd (rd_L1 l0 x7_4) x8_5) ≥ 0 then (if (rd (rd_L1 l0 x7_4) x8_5) < (l0.length : Int) then (if (rd (rd_L1 l0 x7_4) x8_5) = a1 then (interlockref10_without.l2 kj16 l0 a1 x5_5 x6_5 x7_4 (wrap64 (x8_5 + 1))) else (if 0 ≤ (rd (rd_L1 l0 x7_4) x8_5) then (if (rd (rd_L1 l0 x7_4) x8_5) < (x5_5.length : Int) then (if (rdOf false x5_5 (rd (rd_L1 l0 x7_4) x8_5) = true) then (interlockref10_without.l2 kj16 l0 a1 x5_5 x6_5 x7_4 (wrap64 (x8_5 + 1))) else (interlockref10_without.l2 kj16 l0 a1 (x5_5.set ((rd (rd_L1 l0 x7_4) x8_5) : Int).toNat true) true x7_4 (wrap64 (x8_5 + 1)))) else (none)) else (none))) else (interlockref10_without.l2 kj16 l0 a1 x5_5 x6_5 x7_4 (wrap64 (x8_5 + 1)))) else (interlockref10_without.l2 kj16 l0 a1 x5_5 x6_5 x7_4 (wrap64 (x8_5 + 1)))) else (none)) else (none)) else (none)) else (none)) = some r := by rw [if_pos rfl] at H; exact H
 clear H
 have H := H1
 clear H1
 by_cases c24 : 0 ≤ x7_4
 {
 rw [if_pos c24] at H
 have c24b0 : decide (0 ≤ x7_4) = true := decide_eq_true c24
 clear c24
 by_cases c25 : x7_4 < (l0.length : Int)
 {
 rw [if_pos c25] at H
 have c25b0 : decide (x7_4 < (l0.length : Int)) = true := decide_eq_true c25
 clear c25
 by_cases c26 : 0 ≤ x8_5
 {
 rw [if_pos c26] at H
 have c26b0 : decide (0 ≤ x8_5) = true := decide_eq_true c26
 clear c26
 by_cases c27 : x8_5 < ((rd_L1 l0 x7_4).length : Int)
 {
 rw [if_pos c27] at H
 have c27b0 : decide (x8_5 < ((rd_L1 l0 x7_4).length : Int)) = true := decide_eq_true c27
 clear c27
 by_cases c28 : (rd (rd_L1 l0 x7_4) x8_5) ≥ 0
 {
 rw [if_pos c28] at H
 have c28b0 : decide (0 ≤ (rd (rd_L1 l0 x7_4) x8_5)) = true := decide_eq_true c28
 clear c28
 by_cases c29 : (rd (rd_L1 l0 x7_4) x8_5) < (l0.length : Int)
 {
 rw [if_pos c29] at H
 have c29b0 : decide ((rd (rd_L1 l0 x7_4) x8_5) < (l0.length : Int)) = true := decide_eq_true c29
 clear c29
 by_cases c30 : (rd (rd_L1 l0 x7_4) x8_5) = a1
 {
 rw [if_pos c30] at H
 have c30b0 : ((rd (rd_L1 l0 x7_4) x8_5) == a1) = true := beq_iff_eq.mpr c30
 have c30b1 : ((rd (rd_L1 l0 x7_4) x8_5) != a1) = false := bne_eq_false_iff_eq.mpr c30
 clear c30
 have H' := Aside0.mk H
 clear H
 have p155 : 0 ≤ (x7_4 : Int) := of_decide_eq_true (by first | (with_reducible assumption) | assumption)
 have q155 : x7_4 < (l0.length : Int) := of_decide_eq_true (by first | (with_reducible assumption) | assumption)
 obtain ⟨ad155, A155_0, c155_0, e155, hx155_0, hl155_0, hi155_0⟩ := at_L1 HR0.out x7_4 p155 q155
 cases e155
 replace hx155_0 := (HB.out.cell (World.block_lt_of_cell? w _ hx155_0)).trans hx155_0
 have HR155_0 := Aside0.mk hi155_0
 have HC155_0 := Aside0.mk hl155_0
 clear hi155_0 hl155_0
 replace p155 := eq_true p155
 replace q155 := eq_true q155
 have p156 : 0 ≤ (x8_5 : Int) := of_decide_eq_true (by first | (with_reducible assumption) | assumption)
 have q156 : x8_5 < ((rd_L1 l0 x7_4).length : Int) := of_decide_eq_true (by first | (with_reducible assumption) | assumption)
 obtain ⟨ad156, e156, hx156_0⟩ := Kd.at_int HR155_0.out x8_5 p156 q156
 cases e156
 replace hx156_0 := (HB.out.cell (World.block_lt_of_cell? w _ hx156_0)).trans hx156_0
 replace p156 := eq_true p156
 replace q156 := eq_true q156
 go_wp2
 go_roundg kj16
 case measure => have := HJ4.out; have := HJ8.out; have := HK3.out; have := HK4.out; have := HK5.out; have := HJ16.out; omega
 case rel => exact ⟨(x5_5), (x6_5), (wrap64 (x8_5 + 1)), (by first | rfl | (simp; done) | (simp [*]; done)), (by first | rfl | (simp; done) | (simp [*]; done)), H', ⟨by have := HJ4.out; have := HJ8.out; have := HK3.out; have := HK4.out; have := HK5.out; have := HJ16.out; omega⟩, ⟨by (with_reducible repeat (first | apply Kd.R_alloc | apply Kd.R_drewN | apply Kd.R_drew)); exact HO_5.out⟩, ⟨by repeat (first | (with_reducible first | exact HB.out | apply below_alloc | apply pw_below_drewN | apply below_drew1) | exact HB.out)⟩⟩
 }
 {
 rw [if_neg c30] at H
 have c30b0 : ((rd (rd_L1 l0 x7_4) x8_5) == a1) = false := beq_eq_false_iff_ne.mpr c30
 have c30b1 : ((rd (rd_L1 l0 x7_4) x8_5) != a1) = true := bne_iff_ne.mpr c30
 by_cases c31 : 0 ≤ (rd (rd_L1 l0 x7_4) x8_5)
 {
 rw [if_pos c31] at H
 have c31b0 : decide (0 ≤ (rd (rd_L1 l0 x7_4) x8_5)) = true := decide_eq_true c31
 clear c31
 by_cases c32 : (rd (rd_L1 l0 x7_4) x8_5) < (x5_5.length : Int)
 {
 rw [if_pos c32] at H
 have c32b0 : decide ((rd (rd_L1 l0 x7_4) x8_5) < (x5_5.length : Int)) = true := decide_eq_true c32
 clear c32
 obtain ⟨bq33, hbq33⟩ : ∃ b_ : Bool, b_ = (rdOf false x5_5 (rd (rd_L1 l0 x7_4) x8_5)) := ⟨_, rfl⟩
 replace H : (if (bq33 = true) then (interlockref10_without.l2 kj16 l0 a1 x5_5 x6_5 x7_4 (wrap64 (x8_5 + 1))) else (interlockref10_without.l2 kj16 l0 a1 (x5_5.set ((rd (rd_L1 l0 x7_4) x8_5) : Int).toNat true) true x7_4 (wrap64 (x8_5 + 1)))) = some r := by rw [← hbq33] at H; exact H
 have Nbq33 := Aside0.mk hbq33
 clear hbq33
 by_cases c34 : (bq33 = true)
 {
 subst c34
 have H1 : (interlockref10_without.l2 kj16 l0 a1 x5_5 x6_5 x7_4 (wrap64 (x8_5 + 1))) = some r := by rw [if_pos rfl] at H; exact H
 clear H
 have H := H1
 clear H1
 have H' := Aside0.mk H
 clear H
 have p155 : 0 ≤ (x7_4 : Int) := of_decide_eq_true (by first | (with_reducible assumption) | assumption)
 have q155 : x7_4 < (l0.length : Int) := of_decide_eq_true (by first | (with_reducible assumption) | assumption)
 obtain ⟨ad155, A155_0, c155_0, e155, hx155_0, hl155_0, hi155_0⟩ := at_L1 HR0.out x7_4 p155 q155
 cases e155
 replace hx155_0 := (HB.out.cell (World.block_lt_of_cell? w _ hx155_0)).trans hx155_0
 have HR155_0 := Aside0.mk hi155_0
 have HC155_0 := Aside0.mk hl155_0
 clear hi155_0 hl155_0
 replace p155 := eq_true p155
 replace q155 := eq_true q155
 have p156 : 0 ≤ (x8_5 : Int) := of_decide_eq_true (by first | (with_reducible assumption) | assumption)
 have q156 : x8_5 < ((rd_L1 l0 x7_4).length : Int) := of_decide_eq_true (by first | (with_reducible assumption) | assumption)
 obtain ⟨ad156, e156, hx156_0⟩ := Kd.at_int HR155_0.out x8_5 p156 q156
 cases e156
 replace hx156_0 := (HB.out.cell (World.block_lt_of_cell? w _ hx156_0)).trans hx156_0
 replace p156 := eq_true p156
 replace q156 := eq_true q156
 obtain ⟨Ao35, co35, eo35⟩ := Kd.R_slice HO_5.out
 subst eo35
 have p157 : 0 ≤ ((rd (rd_L1 l0 x7_4) x8_5) : Int) := of_decide_eq_true (by first | (with_reducible assumption) | assumption)
 have q157 : (rd (rd_L1 l0 x7_4) x8_5) < (x5_5.length : Int) := of_decide_eq_true (by first | (with_reducible assumption) | assumption)
 obtain ⟨ad157, e157, hx157_0⟩ := Kd.at_bool (Kd.R_reads' HO_5.out).2.2 (rd (rd_L1 l0 x7_4) x8_5) p157 q157
 (try rw [← Nbq33.out] at hx157_0)
 cases e157
 replace p157 := eq_true p157
 replace q157 := eq_true q157
 go_wp2
 go_roundg kj16
 case measure => have := HJ4.out; have := HJ8.out; have := HK3.out; have := HK4.out; have := HK5.out; have := HJ16.out; omega
 case rel => exact ⟨(x5_5), (x6_5), (wrap64 (x8_5 + 1)), (by first | rfl | (simp; done) | (simp [*]; done)), (by first | rfl | (simp; done) | (simp [*]; done)), H', ⟨by have := HJ4.out; have := HJ8.out; have := HK3.out; have := HK4.out; have := HK5.out; have := HJ16.out; omega⟩, ⟨by (with_reducible repeat (first | apply Kd.R_alloc | apply Kd.R_drewN | apply Kd.R_drew)); exact HO_5.out⟩, ⟨by repeat (first | (with_reducible first | exact HB.out | apply below_alloc | apply pw_below_drewN | apply below_drew1) | exact HB.out)⟩⟩
 }
 {
 replace c34 := Bool.eq_false_iff.mpr c34
 subst c34
 have H1 : (interlockref10_without.l2 kj16 l0 a1 (x5_5.set ((rd (rd_L1 l0 x7_4) x8_5) : Int).toNat true) true x7_4 (wrap64 (x8_5 + 1))) = some r := by rw [if_neg (show ¬ (false = true) by decide)] at H; exact H
 clear H
 have H := H1
 clear H1
 obtain ⟨y158, hy158⟩ : ∃ y_ : List Bool, y_ = (x5_5.set ((rd (rd_L1 l0 x7_4) x8_5) : Int).toNat true) := ⟨_, rfl⟩
 replace H : (interlockref10_without.l2 kj16 l0 a1 y158 true x7_4 (wrap64 (x8_5 + 1))) = some r := by first | (rw [hy158]; with_reducible exact H) | (have H2_ := (Option.bind_some _ _).symm.trans H; rw [hy158]; with_reducible exact H2_) | (have H2_ := (Option.bind_some _ _).symm.trans H; with_reducible exact H2_) | with_reducible exact H | (rw [hy158]; exact H) | exact H
 have Ny158 := Aside0.mk hy158
 clear hy158
 have H' := Aside0.mk H
 clear H
 have p155 : 0 ≤ (x7_4 : Int) := of_decide_eq_true (by first | (with_reducible assumption) | assumption)
 have q155 : x7_4 < (l0.length : Int) := of_decide_eq_true (by first | (with_reducible assumption) | assumption)
 obtain ⟨ad155, A155_0, c155_0, e155, hx155_0, hl155_0, hi155_0⟩ := at_L1 HR0.out x7_4 p155 q155
 cases e155
 replace hx155_0 := (HB.out.cell (World.block_lt_of_cell? w _ hx155_0)).trans hx155_0
 have HR155_0 := Aside0.mk hi155_0
 have HC155_0 := Aside0.mk hl155_0
 clear hi155_0 hl155_0
 replace p155 := eq_true p155
 replace q155 := eq_true q155
 have p156 : 0 ≤ (x8_5 : Int) := of_decide_eq_true (by first | (with_reducible assumption) | assumption)
 have q156 : x8_5 < ((rd_L1 l0 x7_4).length : Int) := of_decide_eq_true (by first | (with_reducible assumption) | assumption)
 obtain ⟨ad156, e156, hx156_0⟩ := Kd.at_int HR155_0.out x8_5 p156 q156
 cases e156
 replace hx156_0 := (HB.out.cell (World.block_lt_of_cell? w _ hx156_0)).trans hx156_0
 replace p156 := eq_true p156
 replace q156 := eq_true q156
 obtain ⟨Ao37, co37, eo37⟩ := Kd.R_slice HO_5.out
 subst eo37
 have p157 : 0 ≤ ((rd (rd_L1 l0 x7_4) x8_5) : Int) := of_decide_eq_true (by first | (with_reducible assumption) | assumption)
 have q157 : (rd (rd_L1 l0 x7_4) x8_5) < (x5_5.length : Int) := of_decide_eq_true (by first | (with_reducible assumption) | assumption)
 obtain ⟨ad157, e157, hx157_0⟩ := Kd.at_bool (Kd.R_reads' HO_5.out).2.2 (rd (rd_L1 l0 x7_4) x8_5) p157 q157
 (try rw [← Nbq33.out] at hx157_0)
 cases e157
 replace p157 := eq_true p157
 replace q157 := eq_true q157
 have p36 : 0 ≤ ((rd (rd_L1 l0 x7_4) x8_5) : Int) := of_decide_eq_true (by first | (with_reducible assumption) | assumption)
 have q36 : ((rd (rd_L1 l0 x7_4) x8_5) : Int) < ((x5_5.length : Int) : Int) := of_decide_eq_true (by first | (with_reducible assumption) | assumption)
 obtain ⟨go36, co36, eo36, gb36, gl36, cl36, HG36⟩ := Kd.R_form HO_5.out (by omega)
 (first | cases eo36 | (injection eo36 with ea_ en_ ec_; (first | subst ea_ | (injection ea_ with ea_; subst ea_)); subst ec_; clear en_))
 have GB36 := Aside0.mk gb36
 have GG36 := Aside0.mk HG36
 clear gb36 gl36 HG36
 (first | simp only [add_plain] at hx157_0 | skip)
 obtain ⟨hx36_0, hf36_0⟩ := Kd.R_celln false HO_5.out ((rd (rd_L1 l0 x7_4) x8_5) : Int) p36 q36
 replace p36 := eq_true p36
 replace q36 := eq_true q36
 have HP38 := Kd.R_putg HO_5.out ((rd (rd_L1 l0 x7_4) x8_5) : Int) true
 go_wp2_with (first | ((with_reducible refine gate_store (t := 4) (p := 73) rfl ?_); refine store_event (t := 4) (p := 73) (v := ?vo_w39) (w1 := (wc.setCell ⟨go36, ((rd (rd_L1 l0 x7_4) x8_5) : Int).toNat, none⟩ (.bool true))) ?hg ?ho ?hn ?hr ?_; (case ho => rfl); (case hg => rfl); (case hn => rfl); (case hr => first | (go_simp; done) | (go_simp; rfl)); intro w39 hw; have hg : wc.grownBy w39 (some go36) := (by rw [hw]; exact HP38.2); have hp_ : Kd.R Kd.bool 4 w39 w.heap.size (fun _ => True) (.slice (some ⟨go36, 0, none⟩) x5_5.length co37) y158 := (by rw [hw, Ny158.out]; exact HP38.1); clear HP38; have n0_ := Aside0.mk (hp_); have n1_ := Aside0.mk ((by rw [hw]; exact below_set (HB.out) GB36.out : Below w.heap.size w w39)); clear HO_5; clear HB; have HO_5 := n0_; have HB := n1_; clear n0_ n1_; clear hg hw hp_))
 go_roundg kj16
 case measure => have := HJ4.out; have := HJ8.out; have := HK3.out; have := HK4.out; have := HK5.out; have := HJ16.out; omega
 case rel => exact ⟨(y158), (true), (wrap64 (x8_5 + 1)), (by first | rfl | (simp; done) | (simp [*]; done)), (by first | rfl | (simp; done) | (simp [*]; done)), H', ⟨by have := HJ4.out; have := HJ8.out; have := HK3.out; have := HK4.out; have := HK5.out; have := HJ16.out; omega⟩, ⟨by (with_reducible repeat (first | apply Kd.R_alloc | apply Kd.R_drewN | apply Kd.R_drew)); exact HO_5.out⟩, ⟨by repeat (first | (with_reducible first | exact HB.out | apply below_alloc | apply pw_below_drewN | apply below_drew1) | exact HB.out)⟩⟩
 }
 }
 {
 rw [if_neg c32] at H
 exact absurd H (by simp)
 }
 }
 {
 rw [if_neg c31] at H
 exact absurd H (by simp)
 }
 }
 }
 {
 rw [if_neg c29] at H
 have c29b0 : decide ((rd (rd_L1 l0 x7_4) x8_5) < (l0.length : Int)) = false := decide_eq_false c29
 clear c29
 have H' := Aside0.mk H
 clear H
 have p155 : 0 ≤ (x7_4 : Int) := of_decide_eq_true (by first | (with_reducible assumption) | assumption)
 have q155 : x7_4 < (l0.length : Int) := of_decide_eq_true (by first | (with_reducible assumption) | assumption)
 obtain ⟨ad155, A155_0, c155_0, e155, hx155_0, hl155_0, hi155_0⟩ := at_L1 HR0.out x7_4 p155 q155
 cases e155
 replace hx155_0 := (HB.out.cell (World.block_lt_of_cell? w _ hx155_0)).trans hx155_0
 have HR155_0 := Aside0.mk hi155_0
 have HC155_0 := Aside0.mk hl155_0
 clear hi155_0 hl155_0
 replace p155 := eq_true p155
 replace q155 := eq_true q155
 have p156 : 0 ≤ (x8_5 : Int) := of_decide_eq_true (by first | (with_reducible assumption) | assumption)
 have q156 : x8_5 < ((rd_L1 l0 x7_4).length : Int) := of_decide_eq_true (by first | (with_reducible assumption) | assumption)
 obtain ⟨ad156, e156, hx156_0⟩ := Kd.at_int HR155_0.out x8_5 p156 q156
 cases e156
 replace hx156_0 := (HB.out.cell (World.block_lt_of_cell? w _ hx156_0)).trans hx156_0
 replace p156 := eq_true p156
 replace q156 := eq_true q156
 go_wp2
 go_roundg kj16
 case measure => have := HJ4.out; have := HJ8.out; have := HK3.out; have := HK4.out; have := HK5.out; have := HJ16.out; omega
 case rel => exact ⟨(x5_5), (x6_5), (wrap64 (x8_5 + 1)), (by first | rfl | (simp; done) | (simp [*]; done)), (by first | rfl | (simp; done) | (simp [*]; done)), H', ⟨by have := HJ4.out; have := HJ8.out; have := HK3.out; have := HK4.out; have := HK5.out; have := HJ16.out; omega⟩, ⟨by (with_reducible repeat (first | apply Kd.R_alloc | apply Kd.R_drewN | apply Kd.R_drew)); exact HO_5.out⟩, ⟨by repeat (first | (with_reducible first | exact HB.out | apply below_alloc | apply pw_below_drewN | apply below_drew1) | exact HB.out)⟩⟩
 }
 }
 {
 rw [if_neg c28] at H
 have c28b0 : decide (0 ≤ (rd (rd_L1 l0 x7_4) x8_5)) = false := decide_eq_false c28
 clear c28
 have H' := Aside0.mk H
 clear H
 have p155 : 0 ≤ (x7_4 : Int) := of_decide_eq_true (by first | (with_reducible assumption) | assumption)
 have q155 : x7_4 < (l0.length : Int) := of_decide_eq_true (by first | (with_reducible assumption) | assumption)
 obtain ⟨ad155, A155_0, c155_0, e155, hx155_0, hl155_0, hi155_0⟩ := at_L1 HR0.out x7_4 p155 q155
 cases e155
 replace hx155_0 := (HB.out.cell (World.block_lt_of_cell? w _ hx155_0)).trans hx155_0
 have HR155_0 := Aside0.mk hi155_0
 have HC155_0 := Aside0.mk hl155_0
 clear hi155_0 hl155_0
 replace p155 := eq_true p155
 replace q155 := eq_true q155
 have p156 : 0 ≤ (x8_5 : Int) := of_decide_eq_true (by first | (with_reducible assumption) | assumption)
 have q156 : x8_5 < ((rd_L1 l0 x7_4).length : Int) := of_decide_eq_true (by first | (with_reducible assumption) | assumption)
 obtain ⟨ad156, e156, hx156_0⟩ := Kd.at_int HR155_0.out x8_5 p156 q156
 cases e156
 replace hx156_0 := (HB.out.cell (World.block_lt_of_cell? w _ hx156_0)).trans hx156_0
 replace p156 := eq_true p156
 replace q156 := eq_true q156
 go_wp2
 go_roundg kj16
 case measure => have := HJ4.out; have := HJ8.out; have := HK3.out; have := HK4.out; have := HK5.out; have := HJ16.out; omega
 case rel => exact ⟨(x5_5), (x6_5), (wrap64 (x8_5 + 1)), (by first | rfl | (simp; done) | (simp [*]; done)), (by first | rfl | (simp; done) | (simp [*]; done)), H', ⟨by have := HJ4.out; have := HJ8.out; have := HK3.out; have := HK4.out; have := HK5.out; have := HJ16.out; omega⟩, ⟨by (with_reducible repeat (first | apply Kd.R_alloc | apply Kd.R_drewN | apply Kd.R_drew)); exact HO_5.out⟩, ⟨by repeat (first | (with_reducible first | exact HB.out | apply below_alloc | apply pw_below_drewN | apply below_drew1) | exact HB.out)⟩⟩
 }
 }
 {
 rw [if_neg c27] at H
 exact absurd H (by simp)
 }
 }
 {
 rw [if_neg c26] at H
 exact absurd H (by simp)
 }
 }
 {
 rw [if_neg c25] at H
 exact absurd H (by simp)
 }
 }
 {
 rw [if_neg c24] at H
 exact absurd H (by simp)
 }
 }
 {
 replace c23 := Bool.eq_false_iff.mpr c23
 subst c23
 have H1 : (interlockref10_without.l1 kj16 l0 a1 x5_5 x6_5 (wrap64 (x7_4 + 1))) = some r := by rw [if_neg (show ¬ (false = true) by decide)] at H; exact H
 clear H
 have H := H1
 clear H1
 have H' := Aside0.mk H
 clear H
 go_wp2
 go_roundg kj16
 case measure => have := HJ4.out; have := HJ8.out; have := HK3.out; have := HK4.out; have := HK5.out; have := HJ16.out; omega
 case rel => exact ⟨(x5_5), (x6_5), (wrap64 (x7_4 + 1)), (by first | rfl | (simp; done) | (simp [*]; done)), (by first | rfl | (simp; done) | (simp [*]; done)), H', ⟨by have := HJ4.out; have := HJ8.out; have := HK3.out; have := HK4.out; have := HK5.out; have := HJ16.out; omega⟩, ⟨by (with_reducible repeat (first | apply Kd.R_alloc | apply Kd.R_drewN | apply Kd.R_drew)); exact HO_5.out⟩, ⟨by repeat (first | (with_reducible first | exact HB.out | apply below_alloc | apply pw_below_drewN | apply below_drew1) | exact HB.out)⟩⟩
 }
 )
 )
 )
 )
 }
 {
 rw [if_neg c16] at H
 have c16b0 : decide (x7_4 < (l0.length : Int)) = false := decide_eq_false c16
 clear c16
 have H' := Aside0.mk H
 clear H
 go_wp2
 go_roundg k4
 case measure => have := HJ4.out; have := HJ8.out; have := HK3.out; have := HK4.out; omega
 case rel => exact ⟨(x5_4), (x6_4), (by first | rfl | (simp; done) | (simp [*]; done)), H', ⟨by have := HJ4.out; have := HJ8.out; have := HK3.out; have := HK4.out; omega⟩, ⟨by (with_reducible repeat (first | apply Kd.R_alloc | apply Kd.R_drewN | apply Kd.R_drew)); exact HO_5.out⟩, ⟨by repeat (first | (with_reducible first | exact HB.out | apply below_alloc | apply pw_below_drewN | apply below_drew1) | exact HB.out)⟩⟩
 }
 )
 )
 }
 {
 replace c15 := Bool.eq_false_iff.mpr c15
 subst c15
 have H1 : (some x5_3) = some r := by rw [if_neg (show ¬ (false = true) by decide)] at H; exact H
 clear H
 have H := H1
 clear H1
 obtain rfl := Option.some.inj H
 go_wp2
 go_ret
 exact ⟨_, by first | rfl | (simp [errW_none, errW_some] <;> rfl) | (simp [*, errW_none, errW_some] <;> rfl), by (with_reducible repeat (first | apply Kd.R_alloc | apply Kd.R_drewN | apply Kd.R_drew)); exact HO_5.out, by repeat (first | (with_reducible first | exact HB.out | apply below_alloc | apply pw_below_drewN | apply below_drew1) | exact HB.out)⟩
 }
 )
 )
 )
 )
 )
 )
 }
 {
 rw [if_neg c4] at H
 exact absurd H (by simp)
 }
 }
 {
 rw [if_neg c3] at H
 exact absurd H (by simp)
 }
end Go.Proofs.YtbnkeddnibjncaaDoor.P
