-- written by this project's xprint.py (a turn of the kit's printer; its own texts among them)
import Derived.Test.YtbnkeddnibjncaaDoorPx0
import Derived.Test.YtbnkeddnibjncaaDoorPx10
namespace Go.Proofs.YtbnkeddnibjncaaDoor.P
open Go.RowKit Go.Proofs.YtbnkeddnibjncaaDoorW.PrintWords Go.Proofs.YtbnkeddnibjncaaDoorW.PrintLast Go.Proofs.YtbnkeddnibjncaaDoorW.PrintMore
attribute [local go_sem] max2_int min2_int max_two min_two max_three min_three max_four min_four   -- for this text's walks alone
attribute [local irreducible] Calls
set_option linter.unusedVariables false
set_option linter.unusedSimpArgs false

/-! ### interlockref12_body: function 31 -/
mutual
def interlockref12_body.l0 : Nat → List (List Int) → List Int → List Bool → Int → List Int → Int → Option (List Int)
  | 0, _, _, _, _, _, _ => none
  | k + 1, x0, x1, x2, x3, x9, x10 => if x10 < (x0.length : Int) then (interlockref12_body.l1 k x0 x1 x2 x3 x9 x10 0) else (interlockref12_body.l2 k x0 x2 x3 x9 true)
def interlockref12_body.l1 : Nat → List (List Int) → List Int → List Bool → Int → List Int → Int → Int → Option (List Int)
  | 0, _, _, _, _, _, _, _ => none
  | k + 1, x0, x1, x2, x3, x9, x10, x11 => if 0 ≤ x10 then (if x10 < (x0.length : Int) then (if x11 < ((rd_L1 x0 x10).length : Int) then (if x10 < (x2.length : Int) then (if rdOf false x2 x10 = true then (if 0 ≤ x11 then (if (rd (rd_L1 x0 x10) x11) = x3 then (if x10 < (x1.length : Int) then ((interlockref01_Has.f k (rd x1 x10) x3).bind fun t308 => (if t308 = true then (if x10 < (x9.length : Int) then (if 0 ≤ x3 then (if x3 < (x9.length : Int) then (interlockref12_body.l1 k x0 x1 x2 x3 ((x9.set (x10 : Int).toNat 1).set (x3 : Int).toNat 1) x10 (wrap64 (x11 + 1))) else (none)) else (none)) else (none)) else (interlockref12_body.l1 k x0 x1 x2 x3 x9 x10 (wrap64 (x11 + 1))))) else (none)) else (interlockref12_body.l1 k x0 x1 x2 x3 x9 x10 (wrap64 (x11 + 1)))) else (none)) else (interlockref12_body.l1 k x0 x1 x2 x3 x9 x10 (wrap64 (x11 + 1)))) else (none)) else (interlockref12_body.l0 k x0 x1 x2 x3 x9 (wrap64 (x10 + 1)))) else (none)) else (none)
def interlockref12_body.l2 : Nat → List (List Int) → List Bool → Int → List Int → Bool → Option (List Int)
  | 0, _, _, _, _, _ => none
  | k + 1, x0, x2, x3, x9, x12 => if x12 = true then (interlockref12_body.l3 k x0 x2 x3 x9 false 0) else (some x9)
def interlockref12_body.l3 : Nat → List (List Int) → List Bool → Int → List Int → Bool → Int → Option (List Int)
  | 0, _, _, _, _, _, _ => none
  | k + 1, x0, x2, x3, x9, x12, x13 => if x13 < (x0.length : Int) then (interlockref12_body.l4 k x0 x2 x3 x9 x12 x13 0) else (interlockref12_body.l2 k x0 x2 x3 x9 x12)
def interlockref12_body.l4 : Nat → List (List Int) → List Bool → Int → List Int → Bool → Int → Int → Option (List Int)
  | 0, _, _, _, _, _, _, _ => none
  | k + 1, x0, x2, x3, x9, x12, x13, x14 => if 0 ≤ x13 then (if x13 < (x0.length : Int) then (if x14 < ((rd_L1 x0 x13).length : Int) then (if x13 < (x2.length : Int) then (if rdOf false x2 x13 = true then (if x13 < (x9.length : Int) then (interlockref12_body.j5 k x0 x2 x3 x9 x12 x13 x14 ((rd x9 x13) == 0)) else (none)) else (interlockref12_body.j5 k x0 x2 x3 x9 x12 x13 x14 false)) else (none)) else (interlockref12_body.j5 k x0 x2 x3 x9 x12 x13 x14 false)) else (none)) else (none)
def interlockref12_body.j5 : Nat → List (List Int) → List Bool → Int → List Int → Bool → Int → Int → Bool → Option (List Int)
  | 0, _, _, _, _, _, _, _, _ => none
  | k + 1, x0, x2, x3, x9, x12, x13, x14, x89 => if x89 = true then (if 0 ≤ x13 then (if x13 < (x0.length : Int) then (if 0 ≤ x14 then (if x14 < ((rd_L1 x0 x13).length : Int) then (if (rd (rd_L1 x0 x13) x14) ≥ 0 then (if (rd (rd_L1 x0 x13) x14) < (x0.length : Int) then (if (rd (rd_L1 x0 x13) x14) = x3 then (interlockref12_body.l4 k x0 x2 x3 x9 x12 x13 (wrap64 (x14 + 1))) else (if 0 ≤ (rd (rd_L1 x0 x13) x14) then (if (rd (rd_L1 x0 x13) x14) < (x9.length : Int) then (if (rd x9 (rd (rd_L1 x0 x13) x14)) = 1 then (if x13 < (x9.length : Int) then (interlockref12_body.l4 k x0 x2 x3 (x9.set (x13 : Int).toNat 1) true x13 (wrap64 (x14 + 1))) else (none)) else (interlockref12_body.l4 k x0 x2 x3 x9 x12 x13 (wrap64 (x14 + 1)))) else (none)) else (none))) else (interlockref12_body.l4 k x0 x2 x3 x9 x12 x13 (wrap64 (x14 + 1)))) else (interlockref12_body.l4 k x0 x2 x3 x9 x12 x13 (wrap64 (x14 + 1)))) else (none)) else (none)) else (none)) else (none)) else (interlockref12_body.l3 k x0 x2 x3 x9 x12 (wrap64 (x13 + 1)))
end
def interlockref12_body.f (k : Nat) (l0 : List (List Int)) (l1 : List Int) (l2 : List Bool) (a3 : Int) : Option (List Int) := if 0 ≤ (l0.length : Int) then (if ((l0.length : Int) : Int).toNat ≤ 35184372088832 then (interlockref12_body.l0 k l0 l1 l2 a3 (List.replicate ((l0.length : Int) : Int).toNat 0) 0) else (none)) else (none)
theorem interlockref12_body.mono_l : ∀ k, (∀ y0 y1 y2 y3 y4 y5, LeO (interlockref12_body.l0 k y0 y1 y2 y3 y4 y5) (interlockref12_body.l0 (k + 1) y0 y1 y2 y3 y4 y5)) ∧ (∀ y0 y1 y2 y3 y4 y5 y6, LeO (interlockref12_body.l1 k y0 y1 y2 y3 y4 y5 y6) (interlockref12_body.l1 (k + 1) y0 y1 y2 y3 y4 y5 y6)) ∧ (∀ y0 y1 y2 y3 y4, LeO (interlockref12_body.l2 k y0 y1 y2 y3 y4) (interlockref12_body.l2 (k + 1) y0 y1 y2 y3 y4)) ∧ (∀ y0 y1 y2 y3 y4 y5, LeO (interlockref12_body.l3 k y0 y1 y2 y3 y4 y5) (interlockref12_body.l3 (k + 1) y0 y1 y2 y3 y4 y5)) ∧ (∀ y0 y1 y2 y3 y4 y5 y6, LeO (interlockref12_body.l4 k y0 y1 y2 y3 y4 y5 y6) (interlockref12_body.l4 (k + 1) y0 y1 y2 y3 y4 y5 y6)) ∧ (∀ y0 y1 y2 y3 y4 y5 y6 y7, LeO (interlockref12_body.j5 k y0 y1 y2 y3 y4 y5 y6 y7) (interlockref12_body.j5 (k + 1) y0 y1 y2 y3 y4 y5 y6 y7))
  | 0 => ⟨fun _ _ _ _ _ _ r h => by simp [interlockref12_body.l0] at h, fun _ _ _ _ _ _ _ r h => by simp [interlockref12_body.l1] at h, fun _ _ _ _ _ r h => by simp [interlockref12_body.l2] at h, fun _ _ _ _ _ _ r h => by simp [interlockref12_body.l3] at h, fun _ _ _ _ _ _ _ r h => by simp [interlockref12_body.l4] at h, fun _ _ _ _ _ _ _ _ r h => by simp [interlockref12_body.j5] at h⟩
  | k + 1 => by
    obtain ⟨ih0, ih1, ih2, ih3, ih4, ih5⟩ := interlockref12_body.mono_l k
    refine ⟨?_, ?_, ?_, ?_, ?_, ?_⟩
    · intro y0 y1 y2 y3 y4 y5
      unfold interlockref12_body.l0
      repeat' first
      | (with_reducible exact ih0 _ _ _ _ _ _)
      | (with_reducible exact ih1 _ _ _ _ _ _ _)
      | (with_reducible exact ih2 _ _ _ _ _)
      | (with_reducible exact ih3 _ _ _ _ _ _)
      | (with_reducible exact ih4 _ _ _ _ _ _ _)
      | (with_reducible exact ih5 _ _ _ _ _ _ _ _)
      | (with_reducible exact interlockref01_Has.mono _ _ _)
      | (with_reducible exact LeO.refl _)
      | (with_reducible exact LeO.none _)
      | (with_reducible refine LeO.ite ?_ ?_)
      | (with_reducible refine LeO.bind ?_ (fun _ => ?_))
      | exact ih0 _ _ _ _ _ _
      | exact ih1 _ _ _ _ _ _ _
      | exact ih2 _ _ _ _ _
      | exact ih3 _ _ _ _ _ _
      | exact ih4 _ _ _ _ _ _ _
      | exact ih5 _ _ _ _ _ _ _ _
      | exact LeO.none _
      | refine LeO.ite ?_ ?_
      | refine LeO.bind ?_ (fun _ => ?_)
    · intro y0 y1 y2 y3 y4 y5 y6
      unfold interlockref12_body.l1
      repeat' first
      | (with_reducible exact ih0 _ _ _ _ _ _)
      | (with_reducible exact ih1 _ _ _ _ _ _ _)
      | (with_reducible exact ih2 _ _ _ _ _)
      | (with_reducible exact ih3 _ _ _ _ _ _)
      | (with_reducible exact ih4 _ _ _ _ _ _ _)
      | (with_reducible exact ih5 _ _ _ _ _ _ _ _)
      | (with_reducible exact interlockref01_Has.mono _ _ _)
      | (with_reducible exact LeO.refl _)
      | (with_reducible exact LeO.none _)
      | (with_reducible refine LeO.ite ?_ ?_)
      | (with_reducible refine LeO.bind ?_ (fun _ => ?_))
      | exact ih0 _ _ _ _ _ _
      | exact ih1 _ _ _ _ _ _ _
      | exact ih2 _ _ _ _ _
      | exact ih3 _ _ _ _ _ _
      | exact ih4 _ _ _ _ _ _ _
      | exact ih5 _ _ _ _ _ _ _ _
      | exact LeO.none _
      | refine LeO.ite ?_ ?_
      | refine LeO.bind ?_ (fun _ => ?_)
    · intro y0 y1 y2 y3 y4
      unfold interlockref12_body.l2
      repeat' first
      | (with_reducible exact ih0 _ _ _ _ _ _)
      | (with_reducible exact ih1 _ _ _ _ _ _ _)
      | (with_reducible exact ih2 _ _ _ _ _)
      | (with_reducible exact ih3 _ _ _ _ _ _)
      | (with_reducible exact ih4 _ _ _ _ _ _ _)
      | (with_reducible exact ih5 _ _ _ _ _ _ _ _)
      | (with_reducible exact interlockref01_Has.mono _ _ _)
      | (with_reducible exact LeO.refl _)
      | (with_reducible exact LeO.none _)
      | (with_reducible refine LeO.ite ?_ ?_)
      | (with_reducible refine LeO.bind ?_ (fun _ => ?_))
      | exact ih0 _ _ _ _ _ _
      | exact ih1 _ _ _ _ _ _ _
      | exact ih2 _ _ _ _ _
      | exact ih3 _ _ _ _ _ _
      | exact ih4 _ _ _ _ _ _ _
      | exact ih5 _ _ _ _ _ _ _ _
      | exact LeO.none _
      | refine LeO.ite ?_ ?_
      | refine LeO.bind ?_ (fun _ => ?_)
    · intro y0 y1 y2 y3 y4 y5
      unfold interlockref12_body.l3
      repeat' first
      | (with_reducible exact ih0 _ _ _ _ _ _)
      | (with_reducible exact ih1 _ _ _ _ _ _ _)
      | (with_reducible exact ih2 _ _ _ _ _)
      | (with_reducible exact ih3 _ _ _ _ _ _)
      | (with_reducible exact ih4 _ _ _ _ _ _ _)
      | (with_reducible exact ih5 _ _ _ _ _ _ _ _)
      | (with_reducible exact interlockref01_Has.mono _ _ _)
      | (with_reducible exact LeO.refl _)
      | (with_reducible exact LeO.none _)
      | (with_reducible refine LeO.ite ?_ ?_)
      | (with_reducible refine LeO.bind ?_ (fun _ => ?_))
      | exact ih0 _ _ _ _ _ _
      | exact ih1 _ _ _ _ _ _ _
      | exact ih2 _ _ _ _ _
      | exact ih3 _ _ _ _ _ _
      | exact ih4 _ _ _ _ _ _ _
      | exact ih5 _ _ _ _ _ _ _ _
      | exact LeO.none _
      | refine LeO.ite ?_ ?_
      | refine LeO.bind ?_ (fun _ => ?_)
    · intro y0 y1 y2 y3 y4 y5 y6
      unfold interlockref12_body.l4
      repeat' first
      | (with_reducible exact ih0 _ _ _ _ _ _)
      | (with_reducible exact ih1 _ _ _ _ _ _ _)
      | (with_reducible exact ih2 _ _ _ _ _)
      | (with_reducible exact ih3 _ _ _ _ _ _)
      | (with_reducible exact ih4 _ _ _ _ _ _ _)
      | (with_reducible exact ih5 _ _ _ _ _ _ _ _)
      | (with_reducible exact interlockref01_Has.mono _ _ _)
      | (with_reducible exact LeO.refl _)
      | (with_reducible exact LeO.none _)
      | (with_reducible refine LeO.ite ?_ ?_)
      | (with_reducible refine LeO.bind ?_ (fun _ => ?_))
      | exact ih0 _ _ _ _ _ _
      | exact ih1 _ _ _ _ _ _ _
      | exact ih2 _ _ _ _ _
      | exact ih3 _ _ _ _ _ _
      | exact ih4 _ _ _ _ _ _ _
      | exact ih5 _ _ _ _ _ _ _ _
      | exact LeO.none _
      | refine LeO.ite ?_ ?_
      | refine LeO.bind ?_ (fun _ => ?_)
    · intro y0 y1 y2 y3 y4 y5 y6 y7
      unfold interlockref12_body.j5
      repeat' first
      | (with_reducible exact ih0 _ _ _ _ _ _)
      | (with_reducible exact ih1 _ _ _ _ _ _ _)
      | (with_reducible exact ih2 _ _ _ _ _)
      | (with_reducible exact ih3 _ _ _ _ _ _)
      | (with_reducible exact ih4 _ _ _ _ _ _ _)
      | (with_reducible exact ih5 _ _ _ _ _ _ _ _)
      | (with_reducible exact interlockref01_Has.mono _ _ _)
      | (with_reducible exact LeO.refl _)
      | (with_reducible exact LeO.none _)
      | (with_reducible refine LeO.ite ?_ ?_)
      | (with_reducible refine LeO.bind ?_ (fun _ => ?_))
      | exact ih0 _ _ _ _ _ _
      | exact ih1 _ _ _ _ _ _ _
      | exact ih2 _ _ _ _ _
      | exact ih3 _ _ _ _ _ _
      | exact ih4 _ _ _ _ _ _ _
      | exact ih5 _ _ _ _ _ _ _ _
      | exact LeO.none _
      | refine LeO.ite ?_ ?_
      | refine LeO.bind ?_ (fun _ => ?_)
theorem interlockref12_body.mono : ∀ a0 a1 a2 a3 k, LeO (interlockref12_body.f k a0 a1 a2 a3) (interlockref12_body.f (k + 1) a0 a1 a2 a3) := by
  intro a0 a1 a2 a3 k
  obtain ⟨ih0, ih1, ih2, ih3, ih4, ih5⟩ := interlockref12_body.mono_l k
  unfold interlockref12_body.f
  repeat' first
      | (with_reducible exact ih0 _ _ _ _ _ _)
      | (with_reducible exact ih1 _ _ _ _ _ _ _)
      | (with_reducible exact ih2 _ _ _ _ _)
      | (with_reducible exact ih3 _ _ _ _ _ _)
      | (with_reducible exact ih4 _ _ _ _ _ _ _)
      | (with_reducible exact ih5 _ _ _ _ _ _ _ _)
      | (with_reducible exact interlockref01_Has.mono _ _ _)
      | (with_reducible exact LeO.refl _)
      | (with_reducible exact LeO.none _)
      | (with_reducible refine LeO.ite ?_ ?_)
      | (with_reducible refine LeO.bind ?_ (fun _ => ?_))
      | exact ih0 _ _ _ _ _ _
      | exact ih1 _ _ _ _ _ _ _
      | exact ih2 _ _ _ _ _
      | exact ih3 _ _ _ _ _ _
      | exact ih4 _ _ _ _ _ _ _
      | exact ih5 _ _ _ _ _ _ _ _
      | exact LeO.none _
      | refine LeO.ite ?_ ?_
      | refine LeO.bind ?_ (fun _ => ?_)
set_option maxHeartbeats 8000000 in
set_option maxRecDepth 100000 in
theorem interlockref12_body.calls (k : Nat) (A0 : Option Addr) (c0 : Nat) (l0 : List (List Int)) (A1 : Option Addr) (c1 : Nat) (l1 : List Int) (A2 : Option Addr) (c2 : Nat) (l2 : List Bool) (a3 : Int) (r : List Int) (w : World) (hr0 : Kd.C (Kd.slice 3 (Kd.int .i64)) w A0 l0.length l0) (hc0 : l0.length ≤ c0) (hr1 : Kd.C (Kd.int .u64) w A1 l1.length l1) (hc1 : l1.length ≤ c1) (hr2 : Kd.C Kd.bool w A2 l2.length l2) (hc2 : l2.length ≤ c2) (h : interlockref12_body.f k l0 l1 l2 a3 = some r) :
    Calls Tryd.prog 31 #[.slice A0 l0.length c0, .slice A1 l1.length c1, .slice A2 l2.length c2, .int .i64 a3] w fun e w' => ∃ v0_ : Value, e = .returned (v0_) ∧ Kd.R (Kd.int .i64) 3 w' w.heap.size (fun _ => True) v0_ r ∧ Below w.heap.size w w' := by
 have HR0 := Aside0.mk hr0
 have HC0 := Aside0.mk hc0
 clear hr0 hc0
 have HR1 := Aside0.mk hr1
 have HC1 := Aside0.mk hc1
 clear hr1 hc1
 have HR2 := Aside0.mk hr2
 have HC2 := Aside0.mk hc2
 clear hr2 hc2
 have HB := Aside0.mk (Below.refl w.heap.size w)
 have H : (if 0 ≤ (l0.length : Int) then (if ((l0.length : Int) : Int).toNat ≤ 35184372088832 then (interlockref12_body.l0 k l0 l1 l2 a3 (List.replicate ((l0.length : Int) : Int).toNat 0) 0) else (none)) else (none)) = some r := h
 clear h
 by_cases c5 : 0 ≤ (l0.length : Int)
 {
 rw [if_pos c5] at H
 have c5b0 := eq_true c5
 have c5b1 : decide (0 ≤ (l0.length : Int)) = true := decide_eq_true c5
 clear c5
 by_cases c6 : ((l0.length : Int) : Int).toNat ≤ 35184372088832
 {
 rw [if_pos c6] at H
 have c6b0 := eq_true c6
 have c6b1 : decide (((l0.length : Int) : Int).toNat ≤ 35184372088832) = true := decide_eq_true c6
 clear c6
 obtain ⟨y300, hy300⟩ : ∃ y_ : List Int, y_ = (List.replicate ((l0.length : Int) : Int).toNat 0) := ⟨_, rfl⟩
 replace H : (interlockref12_body.l0 k l0 l1 l2 a3 y300 0) = some r := by first | (rw [hy300]; with_reducible exact H) | (have H2_ := (Option.bind_some _ _).symm.trans H; rw [hy300]; with_reducible exact H2_) | (have H2_ := (Option.bind_some _ _).symm.trans H; with_reducible exact H2_) | with_reducible exact H | (rw [hy300]; exact H) | exact H
 have Ny300 := Aside0.mk hy300
 clear hy300
 have H' := Aside0.mk H
 clear H
 go_enter Tryd.func31, Tryd.ntmps31
 go_wp2_with (first | ((with_reducible refine gate_dst (N := 18) rfl ?_); (try (refine gate_guard (by rfl) ?_; dsimp only)); refine Kd.R_make (Kd.int .i64) _ 3 rfl (N := 18) rfl 31 _ _ rfl (l0.length : Int) rfl rfl Tryd.underlying31 (.int .i64 0) 8 info3 rfl (by decide) (by omega) 0 (ok := fun _ => True) (okp := fun _ => True) rfl (fun _ hk => hk) trivial (of_decide_eq_true (by first | (with_reducible assumption) | assumption)) (Nat.le_trans (Nat.mul_le_mul_right _ (of_decide_eq_true (by first | (with_reducible assumption) | assumption) : (l0.length : Int).toNat ≤ 35184372088832)) (by omega)) (Below.refl _ _) (Nat.le_refl _) ?_; intro v301 w7 ho8 hb hg_ hnew_; clear hg_ hnew_; (first | rw [← Ny300.out] at ho8 | (simp only [Int.reduceToNat] at ho8; rw [← Ny300.out] at ho8)); have n0_ := Aside0.mk (Kd.R_lower ho8 (below_size (by repeat (first | (with_reducible first | exact HB.out | apply below_alloc | apply pw_below_drewN | apply below_drew1) | exact HB.out)))); have n1_ := Aside0.mk (below_step (by repeat (first | (with_reducible first | exact HB.out | apply below_alloc | apply pw_below_drewN | apply below_drew1) | exact HB.out)) hb); clear HB; have HO302 := n0_; have HB := n1_; clear n0_ n1_; clear hb ho8))
 go_loopg [10] k (fun kq v10 w' => ∃ (x9_1 : List Int) (x10_1 : Int), v10 = .int .i64 x10_1 ∧ Aside0 (interlockref12_body.l0 kq l0 l1 l2 a3 x9_1 x10_1 = some r) ∧ Aside0 (kq ≤ k) ∧ Aside0 (Kd.R (Kd.int .i64) 3 w' w.heap.size (fun _ => True) v301 x9_1) ∧ Aside0 (Below w.heap.size w w'))
 case atStart => exact ⟨(y300), (0), (by first | rfl | (simp; done) | (simp [*]; done)), H', ⟨Nat.le_refl _⟩, ⟨by (with_reducible repeat (first | apply Kd.R_alloc | apply Kd.R_drewN | apply Kd.R_drew)); exact HO302.out⟩, ⟨by repeat (first | (with_reducible first | exact HB.out | apply below_alloc | apply pw_below_drewN | apply below_drew1) | exact HB.out)⟩⟩
 case round => (
 clear H'
 try clear c1
 try clear c2
 try clear p2
 try clear c3
 try clear c5
 try clear c5b0
 try clear c5b1
 try clear c6
 try clear c6b0
 try clear c6b1
 obtain ⟨x9_1, x10_1, rfl, HA, HK1, HO_9, HB⟩ := hrel
 cases gk with
 | zero => exact absurd HA.out (by simp [interlockref12_body.l0])
 | succ k1 => (
 have H := HA.out
 clear HA
 simp only [interlockref12_body.l0] at H
 by_cases c9 : x10_1 < (l0.length : Int)
 {
 rw [if_pos c9] at H
 have c9b0 : decide (x10_1 < (l0.length : Int)) = true := decide_eq_true c9
 clear c9
 have H' := Aside0.mk H
 clear H
 go_wp2
 go_loopg [11] k1 (fun kq v11 w' => ∃ (x9_2 : List Int) (x11_2 : Int), v11 = .int .i64 x11_2 ∧ Aside0 (interlockref12_body.l1 kq l0 l1 l2 a3 x9_2 x10_1 x11_2 = some r) ∧ Aside0 (kq ≤ k1) ∧ Aside0 (Kd.R (Kd.int .i64) 3 w' w.heap.size (fun _ => True) v301 x9_2) ∧ Aside0 (Below w.heap.size w w'))
 case atStart => exact ⟨(x9_1), (0), (by first | rfl | (simp; done) | (simp [*]; done)), H', ⟨Nat.le_refl _⟩, ⟨by (with_reducible repeat (first | apply Kd.R_alloc | apply Kd.R_drewN | apply Kd.R_drew)); exact HO_9.out⟩, ⟨by repeat (first | (with_reducible first | exact HB.out | apply below_alloc | apply pw_below_drewN | apply below_drew1) | exact HB.out)⟩⟩
 case round => (
 clear H'
 try clear c1
 try clear c2
 try clear p2
 try clear c3
 try clear c5
 try clear c5b0
 try clear c5b1
 try clear c6
 try clear c6b0
 try clear c6b1
 try clear c9
 try clear c9b0
 try clear p2
 obtain ⟨x9_2, x11_2, rfl, HA, HK2, HO_9, HB⟩ := hrel
 cases gk with
 | zero => exact absurd HA.out (by simp [interlockref12_body.l1])
 | succ k2 => (
 have H := HA.out
 clear HA
 simp only [interlockref12_body.l1] at H
 by_cases c10 : 0 ≤ x10_1
 {
 rw [if_pos c10] at H
 have c10b0 : decide (0 ≤ x10_1) = true := decide_eq_true c10
 clear c10
 by_cases c11 : x10_1 < (l0.length : Int)
 {
 rw [if_pos c11] at H
 have c11b0 : decide (x10_1 < (l0.length : Int)) = true := decide_eq_true c11
 clear c11
 by_cases c12 : x11_2 < ((rd_L1 l0 x10_1).length : Int)
 {
 rw [if_pos c12] at H
 have c12b0 : decide (x11_2 < ((rd_L1 l0 x10_1).length : Int)) = true := decide_eq_true c12
 clear c12
 by_cases c13 : x10_1 < (l2.length : Int)
 {
 rw [if_pos c13] at H
 have c13b0 : decide (x10_1 < (l2.length : Int)) = true := decide_eq_true c13
 clear c13
 obtain ⟨bq14, hbq14⟩ : ∃ b_ : Bool, b_ = (rdOf false l2 x10_1) := ⟨_, rfl⟩
 replace H : (if bq14 = true then (if 0 ≤ x11_2 then (if (rd (rd_L1 l0 x10_1) x11_2) = a3 then (if x10_1 < (l1.length : Int) then ((interlockref01_Has.f k2 (rd l1 x10_1) a3).bind fun t308 => (if t308 = true then (if x10_1 < (x9_2.length : Int) then (if 0 ≤ a3 then (if a3 < (x9_2.length : Int) then (interlockref12_body.l1 k2 l0 l1 l2 a3 ((x9_2.set (x10_1 : Int).toNat 1).set (a3 : Int).toNat 1) x10_1 (wrap64 (x11_2 + 1))) else (none)) else (none)) else (none)) else (interlockref12_body.l1 k2 l0 l1 l2 a3 x9_2 x10_1 (wrap64 (x11_2 + 1))))) else (none)) else (interlockref12_body.l1 k2 l0 l1 l2 a3 x9_2 x10_1 (wrap64 (x11_2 + 1)))) else (none)) else (interlockref12_body.l1 k2 l0 l1 l2 a3 x9_2 x10_1 (wrap64 (x11_2 + 1)))) = some r := by rw [← hbq14] at H; exact H
 have Nbq14 := Aside0.mk hbq14
 clear hbq14
 by_cases c15 : bq14 = true
 {
 subst c15
 have H1 : (if 0 ≤ x11_2 then (if (rd (rd_L1 l0 x10_1) x11_2) = a3 then (if x10_1 < (l1.length : Int) then ((interlockref01_Has.f k2 (rd l1 x10_1) a3).bind fun t308 => (if t308 = true then (if x10_1 < (x9_2.length : Int) then (if 0 ≤ a3 then (if a3 < (x9_2.length : Int) then (interlockref12_body.l1 k2 l0 l1 l2 a3 ((x9_2.set (x10_1 : Int).toNat 1).set (a3 : Int).toNat 1) x10_1 (wrap64 (x11_2 + 1))) else (none)) else (none)) else (none)) else (interlockref12_body.l1 k2 l0 l1 l2 a3 x9_2 x10_1 (wrap64 (x11_2 + 1))))) else (none)) else (interlockref12_body.l1 k2 l0 l1 l2 a3 x9_2 x10_1 (wrap64 (x11_2 + 1)))) else (none)) = some r := by rw [if_pos rfl] at H; exact H
 clear H
 have H := H1
 clear H1
 by_cases c16 : 0 ≤ x11_2
 {
 rw [if_pos c16] at H
 have c16b0 : decide (0 ≤ x11_2) = true := decide_eq_true c16
 clear c16
 by_cases c17 : (rd (rd_L1 l0 x10_1) x11_2) = a3
 {
 rw [if_pos c17] at H
 have c17b0 : ((rd (rd_L1 l0 x10_1) x11_2) == a3) = true := beq_iff_eq.mpr c17
 have c17b1 : ((rd (rd_L1 l0 x10_1) x11_2) != a3) = false := bne_eq_false_iff_eq.mpr c17
 clear c17
 by_cases c18 : x10_1 < (l1.length : Int)
 {
 rw [if_pos c18] at H
 have c18b0 : decide (x10_1 < (l1.length : Int)) = true := decide_eq_true c18
 clear c18
 replace H := Option.bind_eq_some_iff.mp H
 obtain ⟨t308, A190, H⟩ := H
 replace H : (if t308 = true then (if x10_1 < (x9_2.length : Int) then (if 0 ≤ a3 then (if a3 < (x9_2.length : Int) then (interlockref12_body.l1 k2 l0 l1 l2 a3 ((x9_2.set (x10_1 : Int).toNat 1).set (a3 : Int).toNat 1) x10_1 (wrap64 (x11_2 + 1))) else (none)) else (none)) else (none)) else (interlockref12_body.l1 k2 l0 l1 l2 a3 x9_2 x10_1 (wrap64 (x11_2 + 1)))) = some r := H
 have A19 := Aside0.mk A190
 clear A190
 by_cases c20 : t308 = true
 {
 subst c20
 have H1 : (if x10_1 < (x9_2.length : Int) then (if 0 ≤ a3 then (if a3 < (x9_2.length : Int) then (interlockref12_body.l1 k2 l0 l1 l2 a3 ((x9_2.set (x10_1 : Int).toNat 1).set (a3 : Int).toNat 1) x10_1 (wrap64 (x11_2 + 1))) else (none)) else (none)) else (none)) = some r := by rw [if_pos rfl] at H; exact H
 clear H
 have H := H1
 clear H1
 by_cases c21 : x10_1 < (x9_2.length : Int)
 {
 rw [if_pos c21] at H
 have c21b0 : decide (x10_1 < (x9_2.length : Int)) = true := decide_eq_true c21
 clear c21
 obtain ⟨y309, hy309⟩ : ∃ y_ : List Int, y_ = (x9_2.set (x10_1 : Int).toNat 1) := ⟨_, rfl⟩
 replace H : (if 0 ≤ a3 then (if a3 < (x9_2.length : Int) then (interlockref12_body.l1 k2 l0 l1 l2 a3 (y309.set (a3 : Int).toNat 1) x10_1 (wrap64 (x11_2 + 1))) else (none)) else (none)) = some r := by first | (rw [hy309]; with_reducible exact H) | (have H2_ := (Option.bind_some _ _).symm.trans H; rw [hy309]; with_reducible exact H2_) | (have H2_ := (Option.bind_some _ _).symm.trans H; with_reducible exact H2_) | with_reducible exact H | (rw [hy309]; exact H) | exact H
 have Ny309 := Aside0.mk hy309
 clear hy309
 by_cases c23 : 0 ≤ a3
 {
 rw [if_pos c23] at H
 have c23b0 : decide (0 ≤ a3) = true := decide_eq_true c23
 clear c23
 by_cases c24 : a3 < (x9_2.length : Int)
 {
 rw [if_pos c24] at H
 have c24b0 : decide (a3 < (x9_2.length : Int)) = true := decide_eq_true c24
 clear c24
 obtain ⟨y310, hy310⟩ : ∃ y_ : List Int, y_ = (y309.set (a3 : Int).toNat 1) := ⟨_, rfl⟩
 replace H : (interlockref12_body.l1 k2 l0 l1 l2 a3 y310 x10_1 (wrap64 (x11_2 + 1))) = some r := by first | (rw [hy310]; with_reducible exact H) | (have H2_ := (Option.bind_some _ _).symm.trans H; rw [hy310]; with_reducible exact H2_) | (have H2_ := (Option.bind_some _ _).symm.trans H; with_reducible exact H2_) | with_reducible exact H | (rw [hy310]; exact H) | exact H
 have Ny310 := Aside0.mk hy310
 clear hy310
 have H' := Aside0.mk H
 clear H
 have p303 : 0 ≤ (x10_1 : Int) := of_decide_eq_true (by first | (with_reducible assumption) | assumption)
 have q303 : x10_1 < (l0.length : Int) := of_decide_eq_true (by first | (with_reducible assumption) | assumption)
 obtain ⟨ad303, A303_0, c303_0, e303, hx303_0, hl303_0, hi303_0⟩ := at_L1 HR0.out x10_1 p303 q303
 cases e303
 replace hx303_0 := (HB.out.cell (World.block_lt_of_cell? w _ hx303_0)).trans hx303_0
 have HR303_0 := Aside0.mk hi303_0
 have HC303_0 := Aside0.mk hl303_0
 clear hi303_0 hl303_0
 replace p303 := eq_true p303
 replace q303 := eq_true q303
 have p304 : 0 ≤ (x10_1 : Int) := of_decide_eq_true (by first | (with_reducible assumption) | assumption)
 have q304 : x10_1 < (l2.length : Int) := of_decide_eq_true (by first | (with_reducible assumption) | assumption)
 obtain ⟨ad304, e304, hx304_0⟩ := Kd.at_bool HR2.out x10_1 p304 q304
 (try rw [← Nbq14.out] at hx304_0)
 cases e304
 replace hx304_0 := (HB.out.cell (World.block_lt_of_cell? w _ hx304_0)).trans hx304_0
 replace p304 := eq_true p304
 replace q304 := eq_true q304
 have p305 : 0 ≤ (x10_1 : Int) := of_decide_eq_true (by first | (with_reducible assumption) | assumption)
 have q305 : x10_1 < (l0.length : Int) := of_decide_eq_true (by first | (with_reducible assumption) | assumption)
 obtain ⟨ad305, A305_0, c305_0, e305, hx305_0, hl305_0, hi305_0⟩ := at_L1 HR0.out x10_1 p305 q305
 obtain rfl : ad303 = ad305 := (by injection e305)
 replace hx305_0 := (HB.out.cell (World.block_lt_of_cell? w _ hx305_0)).trans hx305_0
 have HR305_0 := Aside0.mk hi305_0
 have HC305_0 := Aside0.mk hl305_0
 clear hi305_0 hl305_0
 replace p305 := eq_true p305
 replace q305 := eq_true q305
 have ea_ := Option.some.inj (hx303_0.symm.trans hx305_0)
 injection ea_ with ea_ en_ ec_
 subst ea_
 subst ec_
 clear en_
 have p306 : 0 ≤ (x11_2 : Int) := of_decide_eq_true (by first | (with_reducible assumption) | assumption)
 have q306 : x11_2 < ((rd_L1 l0 x10_1).length : Int) := of_decide_eq_true (by first | (with_reducible assumption) | assumption)
 obtain ⟨ad306, e306, hx306_0⟩ := Kd.at_int HR305_0.out x11_2 p306 q306
 cases e306
 replace hx306_0 := (HB.out.cell (World.block_lt_of_cell? w _ hx306_0)).trans hx306_0
 replace p306 := eq_true p306
 replace q306 := eq_true q306
 have p307 : 0 ≤ (x10_1 : Int) := of_decide_eq_true (by first | (with_reducible assumption) | assumption)
 have q307 : x10_1 < (l1.length : Int) := of_decide_eq_true (by first | (with_reducible assumption) | assumption)
 obtain ⟨ad307, e307, hx307_0⟩ := Kd.at_int HR1.out x10_1 p307 q307
 cases e307
 replace hx307_0 := (HB.out.cell (World.block_lt_of_cell? w _ hx307_0)).trans hx307_0
 replace p307 := eq_true p307
 replace q307 := eq_true q307
 go_wp2_with (first | (go_at_call 12; (with_reducible refine (interlockref01_Has.calls k2 (rd l1 x10_1) a3 true _ A19.out).mono ?_); rintro e w' ⟨rfl, ⟨nd, rfl⟩⟩; (try (rw [drewN_self wr]; generalize hq_ : World.drewN wr _ = wr; have n0_ : Aside0 (Kd.R (Kd.int .i64) 3 wr w.heap.size (fun _ => True) v301 x9_2) := ⟨by rw [← hq_]; exact (by (with_reducible repeat (first | apply Kd.R_alloc | apply Kd.R_drewN | apply Kd.R_drew)); exact HO_9.out)⟩; have n1_ : Aside0 (Below w.heap.size w wr) := ⟨by rw [← hq_]; exact (by repeat (first | (with_reducible first | exact HB.out | apply below_alloc | apply pw_below_drewN | apply below_drew1) | exact HB.out))⟩; clear HO_9 HB hq_; have HO_9 := n0_; have HB := n1_; clear n0_ n1_)); have p22 : 0 ≤ (x10_1 : Int) := of_decide_eq_true (by first | (with_reducible assumption) | assumption); have q22 : (x10_1 : Int) < ((x9_2.length : Int) : Int) := of_decide_eq_true (by first | (with_reducible assumption) | assumption); obtain ⟨go22, co22, eo22, gb22, gl22, cl22, HG22⟩ := Kd.R_form HO_9.out (by omega); (first | cases eo22 | (injection eo22 with ea_ en_ ec_; (first | subst ea_ | (injection ea_ with ea_; subst ea_)); subst ec_; clear en_)); have GB22 := Aside0.mk gb22; have GG22 := Aside0.mk HG22; clear gb22 gl22 HG22; obtain ⟨hx22_0, hf22_0⟩ := Kd.R_celln 0 HO_9.out (x10_1 : Int) p22 q22; replace p22 := eq_true p22; replace q22 := eq_true q22; obtain ⟨hy26_, hz26_⟩ := Kd.R_celln 0 HO_9.out (x10_1 : Int) (of_decide_eq_true (by first | (with_reducible assumption) | assumption)) (of_decide_eq_true (by first | (with_reducible assumption) | assumption)); have HP26 := Kd.R_putg HO_9.out (x10_1 : Int) 1) | ((with_reducible refine gate_store (t := 3) (p := 59) rfl ?_); refine store_event (t := 3) (p := 59) (v := ?vo_w27) (w1 := (wr.setCell ⟨go22, (x10_1 : Int).toNat, none⟩ (.int .i64 1))) ?hg ?ho ?hn ?hr ?_; (case ho => rfl); (case hg => rfl); (case hn => rfl); (case hr => first | (go_simp; done) | (go_simp; rfl)); intro w27 hw; have hg : wr.grownBy w27 (some go22) := (by rw [hw]; exact HP26.2); have hp_ : Kd.R (Kd.int .i64) 3 w27 w.heap.size (fun _ => True) (.slice (some ⟨go22, 0, none⟩) x9_2.length co22) y309 := (by rw [hw, Ny309.out]; exact HP26.1); clear HP26; have n0_ := Aside0.mk (hp_); have n1_ := Aside0.mk ((by rw [hw]; exact below_set (HB.out) GB22.out : Below w.heap.size w w27)); clear HO_9; clear HB; have HO_9 := n0_; have HB := n1_; clear n0_ n1_; clear hg hw hp_; have p25 : 0 ≤ (a3 : Int) := of_decide_eq_true (by first | (with_reducible assumption) | assumption); have q25 : (a3 : Int) < ((x9_2.length : Int) : Int) := of_decide_eq_true (by first | (with_reducible assumption) | assumption); obtain ⟨hx25_0, hf25_0⟩ := Kd.R_celln 0 HO_9.out (a3 : Int) p25 q25; replace p25 := eq_true p25; replace q25 := eq_true q25; obtain ⟨hy28_, hz28_⟩ := Kd.R_celln 0 HO_9.out (a3 : Int) (of_decide_eq_true (by first | (with_reducible assumption) | assumption)) (of_decide_eq_true (by first | (with_reducible assumption) | assumption)); have HP28 := Kd.R_putg HO_9.out (a3 : Int) 1) | ((with_reducible refine gate_store (t := 3) (p := 62) rfl ?_); refine store_event (t := 3) (p := 62) (v := ?vo_w29) (w1 := (w27.setCell ⟨go22, (a3 : Int).toNat, none⟩ (.int .i64 1))) ?hg ?ho ?hn ?hr ?_; (case ho => rfl); (case hg => rfl); (case hn => rfl); (case hr => first | (go_simp; done) | (go_simp; rfl)); intro w29 hw; have hg : w27.grownBy w29 (some go22) := (by rw [hw]; exact HP28.2); have hp_ : Kd.R (Kd.int .i64) 3 w29 w.heap.size (fun _ => True) (.slice (some ⟨go22, 0, none⟩) x9_2.length co22) y310 := (by rw [hw, Ny310.out]; exact HP28.1); clear HP28; have n0_ := Aside0.mk (hp_); have n1_ := Aside0.mk ((by rw [hw]; exact below_set (HB.out) GB22.out : Below w.heap.size w w29)); clear HO_9; clear HB; have HO_9 := n0_; have HB := n1_; clear n0_ n1_; clear hg hw hp_))
 go_roundg k2
 case measure => have := HK1.out; have := HK2.out; omega
 case rel => exact ⟨(y310), (wrap64 (x11_2 + 1)), (by first | rfl | (simp; done) | (simp [*]; done)), H', ⟨by have := HK1.out; have := HK2.out; omega⟩, ⟨by (with_reducible repeat (first | apply Kd.R_alloc | apply Kd.R_drewN | apply Kd.R_drew)); exact HO_9.out⟩, ⟨by repeat (first | (with_reducible first | exact HB.out | apply below_alloc | apply pw_below_drewN | apply below_drew1) | exact HB.out)⟩⟩
 }
 {
 rw [if_neg c24] at H
 exact absurd H (by simp)
 }
 }
 {
 rw [if_neg c23] at H
 exact absurd H (by simp)
 }
 }
 {
 rw [if_neg c21] at H
 exact absurd H (by simp)
 }
 }
 {
 replace c20 := Bool.eq_false_iff.mpr c20
 subst c20
 have H1 : (interlockref12_body.l1 k2 l0 l1 l2 a3 x9_2 x10_1 (wrap64 (x11_2 + 1))) = some r := by rw [if_neg (show ¬ (false = true) by decide)] at H; exact H
 clear H
 have H := H1
 clear H1
 have H' := Aside0.mk H
 clear H
 have p303 : 0 ≤ (x10_1 : Int) := of_decide_eq_true (by first | (with_reducible assumption) | assumption)
 have q303 : x10_1 < (l0.length : Int) := of_decide_eq_true (by first | (with_reducible assumption) | assumption)
 obtain ⟨ad303, A303_0, c303_0, e303, hx303_0, hl303_0, hi303_0⟩ := at_L1 HR0.out x10_1 p303 q303
 cases e303
 replace hx303_0 := (HB.out.cell (World.block_lt_of_cell? w _ hx303_0)).trans hx303_0
 have HR303_0 := Aside0.mk hi303_0
 have HC303_0 := Aside0.mk hl303_0
 clear hi303_0 hl303_0
 replace p303 := eq_true p303
 replace q303 := eq_true q303
 have p304 : 0 ≤ (x10_1 : Int) := of_decide_eq_true (by first | (with_reducible assumption) | assumption)
 have q304 : x10_1 < (l2.length : Int) := of_decide_eq_true (by first | (with_reducible assumption) | assumption)
 obtain ⟨ad304, e304, hx304_0⟩ := Kd.at_bool HR2.out x10_1 p304 q304
 (try rw [← Nbq14.out] at hx304_0)
 cases e304
 replace hx304_0 := (HB.out.cell (World.block_lt_of_cell? w _ hx304_0)).trans hx304_0
 replace p304 := eq_true p304
 replace q304 := eq_true q304
 have p305 : 0 ≤ (x10_1 : Int) := of_decide_eq_true (by first | (with_reducible assumption) | assumption)
 have q305 : x10_1 < (l0.length : Int) := of_decide_eq_true (by first | (with_reducible assumption) | assumption)
 obtain ⟨ad305, A305_0, c305_0, e305, hx305_0, hl305_0, hi305_0⟩ := at_L1 HR0.out x10_1 p305 q305
 obtain rfl : ad303 = ad305 := (by injection e305)
 replace hx305_0 := (HB.out.cell (World.block_lt_of_cell? w _ hx305_0)).trans hx305_0
 have HR305_0 := Aside0.mk hi305_0
 have HC305_0 := Aside0.mk hl305_0
 clear hi305_0 hl305_0
 replace p305 := eq_true p305
 replace q305 := eq_true q305
 have ea_ := Option.some.inj (hx303_0.symm.trans hx305_0)
 injection ea_ with ea_ en_ ec_
 subst ea_
 subst ec_
 clear en_
 have p306 : 0 ≤ (x11_2 : Int) := of_decide_eq_true (by first | (with_reducible assumption) | assumption)
 have q306 : x11_2 < ((rd_L1 l0 x10_1).length : Int) := of_decide_eq_true (by first | (with_reducible assumption) | assumption)
 obtain ⟨ad306, e306, hx306_0⟩ := Kd.at_int HR305_0.out x11_2 p306 q306
 cases e306
 replace hx306_0 := (HB.out.cell (World.block_lt_of_cell? w _ hx306_0)).trans hx306_0
 replace p306 := eq_true p306
 replace q306 := eq_true q306
 have p307 : 0 ≤ (x10_1 : Int) := of_decide_eq_true (by first | (with_reducible assumption) | assumption)
 have q307 : x10_1 < (l1.length : Int) := of_decide_eq_true (by first | (with_reducible assumption) | assumption)
 obtain ⟨ad307, e307, hx307_0⟩ := Kd.at_int HR1.out x10_1 p307 q307
 cases e307
 replace hx307_0 := (HB.out.cell (World.block_lt_of_cell? w _ hx307_0)).trans hx307_0
 replace p307 := eq_true p307
 replace q307 := eq_true q307
 go_wp2_with (first | (go_at_call 12; (with_reducible refine (interlockref01_Has.calls k2 (rd l1 x10_1) a3 false _ A19.out).mono ?_); rintro e w' ⟨rfl, ⟨nd, rfl⟩⟩))
 go_roundg k2
 case measure => have := HK1.out; have := HK2.out; omega
 case rel => exact ⟨(x9_2), (wrap64 (x11_2 + 1)), (by first | rfl | (simp; done) | (simp [*]; done)), H', ⟨by have := HK1.out; have := HK2.out; omega⟩, ⟨by (with_reducible repeat (first | apply Kd.R_alloc | apply Kd.R_drewN | apply Kd.R_drew)); exact HO_9.out⟩, ⟨by repeat (first | (with_reducible first | exact HB.out | apply below_alloc | apply pw_below_drewN | apply below_drew1) | exact HB.out)⟩⟩
 }
 }
 {
 rw [if_neg c18] at H
 exact absurd H (by simp)
 }
 }
 {
 rw [if_neg c17] at H
 have c17b0 : ((rd (rd_L1 l0 x10_1) x11_2) == a3) = false := beq_eq_false_iff_ne.mpr c17
 have c17b1 : ((rd (rd_L1 l0 x10_1) x11_2) != a3) = true := bne_iff_ne.mpr c17
 have H' := Aside0.mk H
 clear H
 have p303 : 0 ≤ (x10_1 : Int) := of_decide_eq_true (by first | (with_reducible assumption) | assumption)
 have q303 : x10_1 < (l0.length : Int) := of_decide_eq_true (by first | (with_reducible assumption) | assumption)
 obtain ⟨ad303, A303_0, c303_0, e303, hx303_0, hl303_0, hi303_0⟩ := at_L1 HR0.out x10_1 p303 q303
 cases e303
 replace hx303_0 := (HB.out.cell (World.block_lt_of_cell? w _ hx303_0)).trans hx303_0
 have HR303_0 := Aside0.mk hi303_0
 have HC303_0 := Aside0.mk hl303_0
 clear hi303_0 hl303_0
 replace p303 := eq_true p303
 replace q303 := eq_true q303
 have p304 : 0 ≤ (x10_1 : Int) := of_decide_eq_true (by first | (with_reducible assumption) | assumption)
 have q304 : x10_1 < (l2.length : Int) := of_decide_eq_true (by first | (with_reducible assumption) | assumption)
 obtain ⟨ad304, e304, hx304_0⟩ := Kd.at_bool HR2.out x10_1 p304 q304
 (try rw [← Nbq14.out] at hx304_0)
 cases e304
 replace hx304_0 := (HB.out.cell (World.block_lt_of_cell? w _ hx304_0)).trans hx304_0
 replace p304 := eq_true p304
 replace q304 := eq_true q304
 have p305 : 0 ≤ (x10_1 : Int) := of_decide_eq_true (by first | (with_reducible assumption) | assumption)
 have q305 : x10_1 < (l0.length : Int) := of_decide_eq_true (by first | (with_reducible assumption) | assumption)
 obtain ⟨ad305, A305_0, c305_0, e305, hx305_0, hl305_0, hi305_0⟩ := at_L1 HR0.out x10_1 p305 q305
 obtain rfl : ad303 = ad305 := (by injection e305)
 replace hx305_0 := (HB.out.cell (World.block_lt_of_cell? w _ hx305_0)).trans hx305_0
 have HR305_0 := Aside0.mk hi305_0
 have HC305_0 := Aside0.mk hl305_0
 clear hi305_0 hl305_0
 replace p305 := eq_true p305
 replace q305 := eq_true q305
 have ea_ := Option.some.inj (hx303_0.symm.trans hx305_0)
 injection ea_ with ea_ en_ ec_
 subst ea_
 subst ec_
 clear en_
 have p306 : 0 ≤ (x11_2 : Int) := of_decide_eq_true (by first | (with_reducible assumption) | assumption)
 have q306 : x11_2 < ((rd_L1 l0 x10_1).length : Int) := of_decide_eq_true (by first | (with_reducible assumption) | assumption)
 obtain ⟨ad306, e306, hx306_0⟩ := Kd.at_int HR305_0.out x11_2 p306 q306
 cases e306
 replace hx306_0 := (HB.out.cell (World.block_lt_of_cell? w _ hx306_0)).trans hx306_0
 replace p306 := eq_true p306
 replace q306 := eq_true q306
 go_wp2
 go_roundg k2
 case measure => have := HK1.out; have := HK2.out; omega
 case rel => exact ⟨(x9_2), (wrap64 (x11_2 + 1)), (by first | rfl | (simp; done) | (simp [*]; done)), H', ⟨by have := HK1.out; have := HK2.out; omega⟩, ⟨by (with_reducible repeat (first | apply Kd.R_alloc | apply Kd.R_drewN | apply Kd.R_drew)); exact HO_9.out⟩, ⟨by repeat (first | (with_reducible first | exact HB.out | apply below_alloc | apply pw_below_drewN | apply below_drew1) | exact HB.out)⟩⟩
 }
 }
 {
 rw [if_neg c16] at H
 exact absurd H (by simp)
 }
 }
 {
 replace c15 := Bool.eq_false_iff.mpr c15
 subst c15
 have H1 : (interlockref12_body.l1 k2 l0 l1 l2 a3 x9_2 x10_1 (wrap64 (x11_2 + 1))) = some r := by rw [if_neg (show ¬ (false = true) by decide)] at H; exact H
 clear H
 have H := H1
 clear H1
 have H' := Aside0.mk H
 clear H
 have p303 : 0 ≤ (x10_1 : Int) := of_decide_eq_true (by first | (with_reducible assumption) | assumption)
 have q303 : x10_1 < (l0.length : Int) := of_decide_eq_true (by first | (with_reducible assumption) | assumption)
 obtain ⟨ad303, A303_0, c303_0, e303, hx303_0, hl303_0, hi303_0⟩ := at_L1 HR0.out x10_1 p303 q303
 cases e303
 replace hx303_0 := (HB.out.cell (World.block_lt_of_cell? w _ hx303_0)).trans hx303_0
 have HR303_0 := Aside0.mk hi303_0
 have HC303_0 := Aside0.mk hl303_0
 clear hi303_0 hl303_0
 replace p303 := eq_true p303
 replace q303 := eq_true q303
 have p304 : 0 ≤ (x10_1 : Int) := of_decide_eq_true (by first | (with_reducible assumption) | assumption)
 have q304 : x10_1 < (l2.length : Int) := of_decide_eq_true (by first | (with_reducible assumption) | assumption)
 obtain ⟨ad304, e304, hx304_0⟩ := Kd.at_bool HR2.out x10_1 p304 q304
 (try rw [← Nbq14.out] at hx304_0)
 cases e304
 replace hx304_0 := (HB.out.cell (World.block_lt_of_cell? w _ hx304_0)).trans hx304_0
 replace p304 := eq_true p304
 replace q304 := eq_true q304
 go_wp2
 go_roundg k2
 case measure => have := HK1.out; have := HK2.out; omega
 case rel => exact ⟨(x9_2), (wrap64 (x11_2 + 1)), (by first | rfl | (simp; done) | (simp [*]; done)), H', ⟨by have := HK1.out; have := HK2.out; omega⟩, ⟨by (with_reducible repeat (first | apply Kd.R_alloc | apply Kd.R_drewN | apply Kd.R_drew)); exact HO_9.out⟩, ⟨by repeat (first | (with_reducible first | exact HB.out | apply below_alloc | apply pw_below_drewN | apply below_drew1) | exact HB.out)⟩⟩
 }
 }
 {
 rw [if_neg c13] at H
 exact absurd H (by simp)
 }
 }
 {
 rw [if_neg c12] at H
 have c12b0 : decide (x11_2 < ((rd_L1 l0 x10_1).length : Int)) = false := decide_eq_false c12
 clear c12
 have H' := Aside0.mk H
 clear H
 have p303 : 0 ≤ (x10_1 : Int) := of_decide_eq_true (by first | (with_reducible assumption) | assumption)
 have q303 : x10_1 < (l0.length : Int) := of_decide_eq_true (by first | (with_reducible assumption) | assumption)
 obtain ⟨ad303, A303_0, c303_0, e303, hx303_0, hl303_0, hi303_0⟩ := at_L1 HR0.out x10_1 p303 q303
 cases e303
 replace hx303_0 := (HB.out.cell (World.block_lt_of_cell? w _ hx303_0)).trans hx303_0
 have HR303_0 := Aside0.mk hi303_0
 have HC303_0 := Aside0.mk hl303_0
 clear hi303_0 hl303_0
 replace p303 := eq_true p303
 replace q303 := eq_true q303
 go_wp2
 go_roundg k2
 case measure => have := HK1.out; have := HK2.out; omega
 case rel => exact ⟨(x9_2), (wrap64 (x10_1 + 1)), (by first | rfl | (simp; done) | (simp [*]; done)), H', ⟨by have := HK1.out; have := HK2.out; omega⟩, ⟨by (with_reducible repeat (first | apply Kd.R_alloc | apply Kd.R_drewN | apply Kd.R_drew)); exact HO_9.out⟩, ⟨by repeat (first | (with_reducible first | exact HB.out | apply below_alloc | apply pw_below_drewN | apply below_drew1) | exact HB.out)⟩⟩
 }
 }
 {
 rw [if_neg c11] at H
 exact absurd H (by simp)
 }
 }
 {
 rw [if_neg c10] at H
 exact absurd H (by simp)
 }
 )
 )
 }
 {
 rw [if_neg c9] at H
 have c9b0 : decide (x10_1 < (l0.length : Int)) = false := decide_eq_false c9
 clear c9
 have H' := Aside0.mk H
 clear H
 go_wp2
 go_loopg [12] k1 (fun kq v12 w' => ∃ (x9_2 : List Int) (x12_2 : Bool), v12 = .bool x12_2 ∧ Aside0 (interlockref12_body.l2 kq l0 l2 a3 x9_2 x12_2 = some r) ∧ Aside0 (kq ≤ k1) ∧ Aside0 (Kd.R (Kd.int .i64) 3 w' w.heap.size (fun _ => True) v301 x9_2) ∧ Aside0 (Below w.heap.size w w'))
 case atStart => exact ⟨(x9_1), (true), (by first | rfl | (simp; done) | (simp [*]; done)), H', ⟨Nat.le_refl _⟩, ⟨by (with_reducible repeat (first | apply Kd.R_alloc | apply Kd.R_drewN | apply Kd.R_drew)); exact HO_9.out⟩, ⟨by repeat (first | (with_reducible first | exact HB.out | apply below_alloc | apply pw_below_drewN | apply below_drew1) | exact HB.out)⟩⟩
 case round => (
 clear H'
 try clear c1
 try clear q1
 try clear c2
 try clear p2
 try clear q2
 try clear hx2
 try clear c3
 try clear p3
 try clear q3
 try clear hx3
 try clear c5
 try clear c5b0
 try clear c5b1
 try clear c6
 try clear c6b0
 try clear c6b1
 try clear p6
 try clear c9
 try clear c9b0
 try clear c10
 try clear c10b0
 try clear c11
 try clear c11b0
 try clear c12
 try clear c12b0
 try clear c13
 try clear c13b0
 try clear q14
 try clear c15
 try clear c16
 try clear c16b0
 try clear c17
 try clear c17b0
 try clear c17b1
 try clear c18
 try clear c18b0
 try clear c20
 try clear c21
 try clear c21b0
 try clear p22
 try clear q22
 try clear hx22
 try clear hf22
 try clear c23
 try clear c23b0
 try clear c24
 try clear c24b0
 try clear p25
 try clear q25
 try clear hx25
 try clear hf25
 try clear hx22_0
 try clear hx25_0
 try clear hx303_0
 try clear hx304_0
 try clear hx305_0
 try clear hx306_0
 try clear hx307_0
 try clear p2
 try clear p22
 try clear p25
 try clear p303
 try clear p304
 try clear p305
 try clear p306
 try clear p307
 try clear q22
 try clear q25
 try clear q303
 try clear q304
 try clear q305
 try clear q306
 try clear q307
 obtain ⟨x9_2, x12_2, rfl, HA, HK2, HO_9, HB⟩ := hrel
 cases gk with
 | zero => exact absurd HA.out (by simp [interlockref12_body.l2])
 | succ k2 => (
 have H := HA.out
 clear HA
 simp only [interlockref12_body.l2] at H
 by_cases c30 : x12_2 = true
 {
 subst c30
 have H1 : (interlockref12_body.l3 k2 l0 l2 a3 x9_2 false 0) = some r := by rw [if_pos rfl] at H; exact H
 clear H
 have H := H1
 clear H1
 have H' := Aside0.mk H
 clear H
 go_wp2
 go_loopg [12, 13] k2 (fun kq v12 v13 w' => ∃ (x9_3 : List Int) (x12_3 : Bool) (x13_3 : Int), v12 = .bool x12_3 ∧ v13 = .int .i64 x13_3 ∧ Aside0 (interlockref12_body.l3 kq l0 l2 a3 x9_3 x12_3 x13_3 = some r) ∧ Aside0 (kq ≤ k2) ∧ Aside0 (Kd.R (Kd.int .i64) 3 w' w.heap.size (fun _ => True) v301 x9_3) ∧ Aside0 (Below w.heap.size w w'))
 case atStart => exact ⟨(x9_2), (false), (0), (by first | rfl | (simp; done) | (simp [*]; done)), (by first | rfl | (simp; done) | (simp [*]; done)), H', ⟨Nat.le_refl _⟩, ⟨by (with_reducible repeat (first | apply Kd.R_alloc | apply Kd.R_drewN | apply Kd.R_drew)); exact HO_9.out⟩, ⟨by repeat (first | (with_reducible first | exact HB.out | apply below_alloc | apply pw_below_drewN | apply below_drew1) | exact HB.out)⟩⟩
 case round => (
 clear H'
 try clear c1
 try clear q1
 try clear c2
 try clear p2
 try clear q2
 try clear hx2
 try clear c3
 try clear p3
 try clear q3
 try clear hx3
 try clear c5
 try clear c5b0
 try clear c5b1
 try clear c6
 try clear c6b0
 try clear c6b1
 try clear p6
 try clear c9
 try clear c9b0
 try clear c10
 try clear c10b0
 try clear c11
 try clear c11b0
 try clear c12
 try clear c12b0
 try clear c13
 try clear c13b0
 try clear q14
 try clear c15
 try clear c16
 try clear c16b0
 try clear c17
 try clear c17b0
 try clear c17b1
 try clear c18
 try clear c18b0
 try clear c20
 try clear c21
 try clear c21b0
 try clear p22
 try clear q22
 try clear hx22
 try clear hf22
 try clear c23
 try clear c23b0
 try clear c24
 try clear c24b0
 try clear p25
 try clear q25
 try clear hx25
 try clear hf25
 try clear c30
 try clear p30
 try clear q30
 try clear hx30
 try clear hx22_0
 try clear hx25_0
 try clear hx303_0
 try clear hx304_0
 try clear hx305_0
 try clear hx306_0
 try clear hx307_0
 try clear p2
 try clear p22
 try clear p25
 try clear p3
 try clear p303
 try clear p304
 try clear p305
 try clear p306
 try clear p307
 try clear p6
 try clear q1
 try clear q14
 try clear q2
 try clear q22
 try clear q25
 try clear q3
 try clear q303
 try clear q304
 try clear q305
 try clear q306
 try clear q307
 obtain ⟨x9_3, x12_3, x13_3, rfl, rfl, HA, HK3, HO_9, HB⟩ := hrel
 cases gk with
 | zero => exact absurd HA.out (by simp [interlockref12_body.l3])
 | succ k3 => (
 have H := HA.out
 clear HA
 simp only [interlockref12_body.l3] at H
 by_cases c31 : x13_3 < (l0.length : Int)
 {
 rw [if_pos c31] at H
 have c31b0 : decide (x13_3 < (l0.length : Int)) = true := decide_eq_true c31
 clear c31
 have H' := Aside0.mk H
 clear H
 go_wp2
 go_loopg [12, 14] k3 (fun kq v12 v14 w' => ∃ (x9_4 : List Int) (x12_4 : Bool) (x14_4 : Int), v12 = .bool x12_4 ∧ v14 = .int .i64 x14_4 ∧ Aside0 (interlockref12_body.l4 kq l0 l2 a3 x9_4 x12_4 x13_3 x14_4 = some r) ∧ Aside0 (kq ≤ k3) ∧ Aside0 (Kd.R (Kd.int .i64) 3 w' w.heap.size (fun _ => True) v301 x9_4) ∧ Aside0 (Below w.heap.size w w'))
 case atStart => exact ⟨(x9_3), (x12_3), (0), (by first | rfl | (simp; done) | (simp [*]; done)), (by first | rfl | (simp; done) | (simp [*]; done)), H', ⟨Nat.le_refl _⟩, ⟨by (with_reducible repeat (first | apply Kd.R_alloc | apply Kd.R_drewN | apply Kd.R_drew)); exact HO_9.out⟩, ⟨by repeat (first | (with_reducible first | exact HB.out | apply below_alloc | apply pw_below_drewN | apply below_drew1) | exact HB.out)⟩⟩
 case round => (
 clear H'
 try clear c1
 try clear q1
 try clear c2
 try clear p2
 try clear q2
 try clear hx2
 try clear c3
 try clear p3
 try clear q3
 try clear hx3
 try clear c5
 try clear c5b0
 try clear c5b1
 try clear c6
 try clear c6b0
 try clear c6b1
 try clear p6
 try clear c9
 try clear c9b0
 try clear c10
 try clear c10b0
 try clear c11
 try clear c11b0
 try clear c12
 try clear c12b0
 try clear c13
 try clear c13b0
 try clear q14
 try clear c15
 try clear c16
 try clear c16b0
 try clear c17
 try clear c17b0
 try clear c17b1
 try clear c18
 try clear c18b0
 try clear c20
 try clear c21
 try clear c21b0
 try clear p22
 try clear q22
 try clear hx22
 try clear hf22
 try clear c23
 try clear c23b0
 try clear c24
 try clear c24b0
 try clear p25
 try clear q25
 try clear hx25
 try clear hf25
 try clear c30
 try clear p30
 try clear q30
 try clear hx30
 try clear c31
 try clear c31b0
 try clear hx22_0
 try clear hx25_0
 try clear hx303_0
 try clear hx304_0
 try clear hx305_0
 try clear hx306_0
 try clear hx307_0
 try clear p2
 try clear p22
 try clear p25
 try clear p3
 try clear p30
 try clear p303
 try clear p304
 try clear p305
 try clear p306
 try clear p307
 try clear p6
 try clear q1
 try clear q14
 try clear q2
 try clear q22
 try clear q25
 try clear q3
 try clear q30
 try clear q303
 try clear q304
 try clear q305
 try clear q306
 try clear q307
 obtain ⟨x9_4, x12_4, x14_4, rfl, rfl, HA, HK4, HO_9, HB⟩ := hrel
 cases gk with
 | zero => exact absurd HA.out (by simp [interlockref12_body.l4])
 | succ k4 => (
 have H := HA.out
 clear HA
 simp only [interlockref12_body.l4] at H
 have HC32 := Aside0.mk H
 clear H
 go_upto_region 18 with (fail)
 go_cut [89] (fun v89 wc => ∃ (kq : Nat) (x89_31 : Bool), v89 = .bool x89_31 ∧ Aside0 (interlockref12_body.j5 kq l0 l2 a3 x9_4 x12_4 x13_3 x14_4 x89_31 = some r) ∧ Aside0 (kq ≤ k4) ∧ Aside0 (Kd.R (Kd.int .i64) 3 wc w.heap.size (fun _ => True) v301 x9_4) ∧ Aside0 (Below w.heap.size w wc))
 case first => (
 have H := HC32.out
 clear HC32
 by_cases c33 : 0 ≤ x13_3
 {
 rw [if_pos c33] at H
 have c33b0 : decide (0 ≤ x13_3) = true := decide_eq_true c33
 clear c33
 (first | rw [c33b0] | (simp only [i64_w, i32_w]; rw [c33b0]) | skip)
 by_cases c34 : x13_3 < (l0.length : Int)
 {
 rw [if_pos c34] at H
 have c34b0 : decide (x13_3 < (l0.length : Int)) = true := decide_eq_true c34
 clear c34
 by_cases c35 : x14_4 < ((rd_L1 l0 x13_3).length : Int)
 {
 rw [if_pos c35] at H
 have c35b0 : decide (x14_4 < ((rd_L1 l0 x13_3).length : Int)) = true := decide_eq_true c35
 clear c35
 by_cases c36 : x13_3 < (l2.length : Int)
 {
 rw [if_pos c36] at H
 have c36b0 : decide (x13_3 < (l2.length : Int)) = true := decide_eq_true c36
 clear c36
 obtain ⟨bq37, hbq37⟩ : ∃ b_ : Bool, b_ = (rdOf false l2 x13_3) := ⟨_, rfl⟩
 replace H : (if bq37 = true then (if x13_3 < (x9_4.length : Int) then (interlockref12_body.j5 k4 l0 l2 a3 x9_4 x12_4 x13_3 x14_4 ((rd x9_4 x13_3) == 0)) else (none)) else (interlockref12_body.j5 k4 l0 l2 a3 x9_4 x12_4 x13_3 x14_4 false)) = some r := by rw [← hbq37] at H; exact H
 have Nbq37 := Aside0.mk hbq37
 clear hbq37
 by_cases c38 : bq37 = true
 {
 subst c38
 have H1 : (if x13_3 < (x9_4.length : Int) then (interlockref12_body.j5 k4 l0 l2 a3 x9_4 x12_4 x13_3 x14_4 ((rd x9_4 x13_3) == 0)) else (none)) = some r := by rw [if_pos rfl] at H; exact H
 clear H
 have H := H1
 clear H1
 by_cases c39 : x13_3 < (x9_4.length : Int)
 {
 rw [if_pos c39] at H
 have c39b0 : decide (x13_3 < (x9_4.length : Int)) = true := decide_eq_true c39
 clear c39
 have H' := Aside0.mk H
 clear H
 have p311 : 0 ≤ (x13_3 : Int) := of_decide_eq_true (by first | (with_reducible assumption) | assumption)
 have q311 : x13_3 < (l0.length : Int) := of_decide_eq_true (by first | (with_reducible assumption) | assumption)
 obtain ⟨ad311, A311_0, c311_0, e311, hx311_0, hl311_0, hi311_0⟩ := at_L1 HR0.out x13_3 p311 q311
 cases e311
 replace hx311_0 := (HB.out.cell (World.block_lt_of_cell? w _ hx311_0)).trans hx311_0
 have HR311_0 := Aside0.mk hi311_0
 have HC311_0 := Aside0.mk hl311_0
 clear hi311_0 hl311_0
 replace p311 := eq_true p311
 replace q311 := eq_true q311
 have p312 : 0 ≤ (x13_3 : Int) := of_decide_eq_true (by first | (with_reducible assumption) | assumption)
 have q312 : x13_3 < (l2.length : Int) := of_decide_eq_true (by first | (with_reducible assumption) | assumption)
 obtain ⟨ad312, e312, hx312_0⟩ := Kd.at_bool HR2.out x13_3 p312 q312
 (try rw [← Nbq37.out] at hx312_0)
 cases e312
 replace hx312_0 := (HB.out.cell (World.block_lt_of_cell? w _ hx312_0)).trans hx312_0
 replace p312 := eq_true p312
 replace q312 := eq_true q312
 obtain ⟨Ao40, co40, eo40⟩ := Kd.R_slice HO_9.out
 subst eo40
 have p313 : 0 ≤ (x13_3 : Int) := of_decide_eq_true (by first | (with_reducible assumption) | assumption)
 have q313 : x13_3 < (x9_4.length : Int) := of_decide_eq_true (by first | (with_reducible assumption) | assumption)
 obtain ⟨ad313, e313, hx313_0⟩ := Kd.at_int (Kd.R_reads' HO_9.out).2.2 x13_3 p313 q313
 cases e313
 replace p313 := eq_true p313
 replace q313 := eq_true q313
 go_wp2
 go_meet
 case rel => exact ⟨_, (((rd x9_4 x13_3) == 0)), (by first | rfl | (simp; done) | (simp [*]; done)), H', ⟨by have := HK1.out; have := HK2.out; have := HK3.out; have := HK4.out; first | omega | exact Nat.le_refl _⟩, ⟨by (with_reducible repeat (first | apply Kd.R_alloc | apply Kd.R_drewN | apply Kd.R_drew)); exact HO_9.out⟩, ⟨by repeat (first | (with_reducible first | exact HB.out | apply below_alloc | apply pw_below_drewN | apply below_drew1) | exact HB.out)⟩⟩
 }
 {
 rw [if_neg c39] at H
 exact absurd H (by simp)
 }
 }
 {
 replace c38 := Bool.eq_false_iff.mpr c38
 subst c38
 have H1 : (interlockref12_body.j5 k4 l0 l2 a3 x9_4 x12_4 x13_3 x14_4 false) = some r := by rw [if_neg (show ¬ (false = true) by decide)] at H; exact H
 clear H
 have H := H1
 clear H1
 have H' := Aside0.mk H
 clear H
 have p311 : 0 ≤ (x13_3 : Int) := of_decide_eq_true (by first | (with_reducible assumption) | assumption)
 have q311 : x13_3 < (l0.length : Int) := of_decide_eq_true (by first | (with_reducible assumption) | assumption)
 obtain ⟨ad311, A311_0, c311_0, e311, hx311_0, hl311_0, hi311_0⟩ := at_L1 HR0.out x13_3 p311 q311
 cases e311
 replace hx311_0 := (HB.out.cell (World.block_lt_of_cell? w _ hx311_0)).trans hx311_0
 have HR311_0 := Aside0.mk hi311_0
 have HC311_0 := Aside0.mk hl311_0
 clear hi311_0 hl311_0
 replace p311 := eq_true p311
 replace q311 := eq_true q311
 have p312 : 0 ≤ (x13_3 : Int) := of_decide_eq_true (by first | (with_reducible assumption) | assumption)
 have q312 : x13_3 < (l2.length : Int) := of_decide_eq_true (by first | (with_reducible assumption) | assumption)
 obtain ⟨ad312, e312, hx312_0⟩ := Kd.at_bool HR2.out x13_3 p312 q312
 (try rw [← Nbq37.out] at hx312_0)
 cases e312
 replace hx312_0 := (HB.out.cell (World.block_lt_of_cell? w _ hx312_0)).trans hx312_0
 replace p312 := eq_true p312
 replace q312 := eq_true q312
 go_wp2
 go_meet
 case rel => exact ⟨_, (false), (by first | rfl | (simp; done) | (simp [*]; done)), H', ⟨by have := HK1.out; have := HK2.out; have := HK3.out; have := HK4.out; first | omega | exact Nat.le_refl _⟩, ⟨by (with_reducible repeat (first | apply Kd.R_alloc | apply Kd.R_drewN | apply Kd.R_drew)); exact HO_9.out⟩, ⟨by repeat (first | (with_reducible first | exact HB.out | apply below_alloc | apply pw_below_drewN | apply below_drew1) | exact HB.out)⟩⟩
 }
 }
 {
 rw [if_neg c36] at H
 exact absurd H (by simp)
 }
 }
 {
 rw [if_neg c35] at H
 have c35b0 : decide (x14_4 < ((rd_L1 l0 x13_3).length : Int)) = false := decide_eq_false c35
 clear c35
 have H' := Aside0.mk H
 clear H
 have p311 : 0 ≤ (x13_3 : Int) := of_decide_eq_true (by first | (with_reducible assumption) | assumption)
 have q311 : x13_3 < (l0.length : Int) := of_decide_eq_true (by first | (with_reducible assumption) | assumption)
 obtain ⟨ad311, A311_0, c311_0, e311, hx311_0, hl311_0, hi311_0⟩ := at_L1 HR0.out x13_3 p311 q311
 cases e311
 replace hx311_0 := (HB.out.cell (World.block_lt_of_cell? w _ hx311_0)).trans hx311_0
 have HR311_0 := Aside0.mk hi311_0
 have HC311_0 := Aside0.mk hl311_0
 clear hi311_0 hl311_0
 replace p311 := eq_true p311
 replace q311 := eq_true q311
 go_wp2
 go_meet
 case rel => exact ⟨_, (false), (by first | rfl | (simp; done) | (simp [*]; done)), H', ⟨by have := HK1.out; have := HK2.out; have := HK3.out; have := HK4.out; first | omega | exact Nat.le_refl _⟩, ⟨by (with_reducible repeat (first | apply Kd.R_alloc | apply Kd.R_drewN | apply Kd.R_drew)); exact HO_9.out⟩, ⟨by repeat (first | (with_reducible first | exact HB.out | apply below_alloc | apply pw_below_drewN | apply below_drew1) | exact HB.out)⟩⟩
 }
 }
 {
 rw [if_neg c34] at H
 exact absurd H (by simp)
 }
 }
 {
 rw [if_neg c33] at H
 exact absurd H (by simp)
 }
 )
 case rest => (
 clear HC32
 try clear c1
 try clear q1
 try clear c2
 try clear p2
 try clear q2
 try clear hx2
 try clear c3
 try clear p3
 try clear q3
 try clear hx3
 try clear c5
 try clear c5b0
 try clear c5b1
 try clear c6
 try clear c6b0
 try clear c6b1
 try clear p6
 try clear c9
 try clear c9b0
 try clear c10
 try clear c10b0
 try clear c11
 try clear c11b0
 try clear c12
 try clear c12b0
 try clear c13
 try clear c13b0
 try clear q14
 try clear c15
 try clear c16
 try clear c16b0
 try clear c17
 try clear c17b0
 try clear c17b1
 try clear c18
 try clear c18b0
 try clear c20
 try clear c21
 try clear c21b0
 try clear p22
 try clear q22
 try clear hx22
 try clear hf22
 try clear c23
 try clear c23b0
 try clear c24
 try clear c24b0
 try clear p25
 try clear q25
 try clear hx25
 try clear hf25
 try clear c30
 try clear p30
 try clear q30
 try clear hx30
 try clear c31
 try clear c31b0
 try clear p31
 try clear q31
 try clear hx31
 try clear c33
 try clear c33b0
 try clear c34
 try clear c34b0
 try clear c35
 try clear c35b0
 try clear c36
 try clear c36b0
 try clear q37
 try clear c38
 try clear c39
 try clear c39b0
 try clear hx22_0
 try clear hx25_0
 try clear hx303_0
 try clear hx304_0
 try clear hx305_0
 try clear hx306_0
 try clear hx307_0
 try clear hx311_0
 try clear hx312_0
 try clear hx313_0
 try clear p2
 try clear p22
 try clear p25
 try clear p3
 try clear p30
 try clear p303
 try clear p304
 try clear p305
 try clear p306
 try clear p307
 try clear p311
 try clear p312
 try clear p313
 try clear p6
 try clear q1
 try clear q14
 try clear q2
 try clear q22
 try clear q25
 try clear q3
 try clear q30
 try clear q303
 try clear q304
 try clear q305
 try clear q306
 try clear q307
 try clear q311
 try clear q312
 try clear q313
 obtain ⟨kq, x89_31, rfl, HA, HJ31, HO_9, HB⟩ := hcut
 cases kq with
 | zero => exact absurd HA.out (by simp [interlockref12_body.j5])
 | succ kj31 => (
 have H := HA.out
 clear HA
 simp only [interlockref12_body.j5] at H
 by_cases c41 : x89_31 = true
 {
 subst c41
 have H1 : (if 0 ≤ x13_3 then (if x13_3 < (l0.length : Int) then (if 0 ≤ x14_4 then (if x14_4 < ((rd_L1 l0 x13_3).length : Int) then (if (rd (rd_L1 l0 x13_3) x14_4) ≥ 0 then (if (rd (rd_L1 l0 x13_3) x14_4) < (l0.length : Int) then (if (rd (rd_L1 l0 x13_3) x14_4) = a3 then (interlockref12_body.l4 kj31 l0 l2 a3 x9_4 x12_4 x13_3 (wrap64 (x14_4 + 1))) else (if 0 ≤ (rd (rd_L1 l0 x13_3) x14_4) then (if (rd (rd_L1 l0 x13_3) x14_4) < (x9_4.length : Int) then (if (rd x9_4 (rd (rd_L1 l0 x13_3) x14_4)) = 1 then (if x13_3 < (x9_4.length : Int) then (interlockref12_body.l4 kj31 l0 l2 a3 (x9_4.set (x13_3 : Int).toNat 1) true x13_3 (wrap64 (x14_4 + 1))) else (none)) else (interlockref12_body.l4 kj31 l0 l2 a3 x9_4 x12_4 x13_3 (wrap64 (x14_4 + 1)))) else (none)) else (none))) else (interlockref12_body.l4 kj31 l0 l2 a3 x9_4 x12_4 x13_3 (wrap64 (x14_4 + 1)))) else (interlockref12_body.l4 kj31 l0 l2 a3 x9_4 x12_4 x13_3 (wrap64 (x14_4 + 1)))) else (none)) else (none)) else (none)) else (none)) = some r := by rw [if_pos rfl] at H; exact H
 clear H
 have H := H1
 clear H1
 by_cases c42 : 0 ≤ x13_3
 {
 rw [if_pos c42] at H
 have c42b0 : decide (0 ≤ x13_3) = true := decide_eq_true c42
 clear c42
 by_cases c43 : x13_3 < (l0.length : Int)
 {
 rw [if_pos c43] at H
 have c43b0 : decide (x13_3 < (l0.length : Int)) = true := decide_eq_true c43
 clear c43
 by_cases c44 : 0 ≤ x14_4
 {
 rw [if_pos c44] at H
 have c44b0 : decide (0 ≤ x14_4) = true := decide_eq_true c44
 clear c44
 by_cases c45 : x14_4 < ((rd_L1 l0 x13_3).length : Int)
 {
 rw [if_pos c45] at H
 have c45b0 : decide (x14_4 < ((rd_L1 l0 x13_3).length : Int)) = true := decide_eq_true c45
 clear c45
 by_cases c46 : (rd (rd_L1 l0 x13_3) x14_4) ≥ 0
 {
 rw [if_pos c46] at H
 have c46b0 : decide (0 ≤ (rd (rd_L1 l0 x13_3) x14_4)) = true := decide_eq_true c46
 clear c46
 by_cases c47 : (rd (rd_L1 l0 x13_3) x14_4) < (l0.length : Int)
 {
 rw [if_pos c47] at H
 have c47b0 : decide ((rd (rd_L1 l0 x13_3) x14_4) < (l0.length : Int)) = true := decide_eq_true c47
 clear c47
 by_cases c48 : (rd (rd_L1 l0 x13_3) x14_4) = a3
 {
 rw [if_pos c48] at H
 have c48b0 : ((rd (rd_L1 l0 x13_3) x14_4) == a3) = true := beq_iff_eq.mpr c48
 have c48b1 : ((rd (rd_L1 l0 x13_3) x14_4) != a3) = false := bne_eq_false_iff_eq.mpr c48
 clear c48
 have H' := Aside0.mk H
 clear H
 have p314 : 0 ≤ (x13_3 : Int) := of_decide_eq_true (by first | (with_reducible assumption) | assumption)
 have q314 : x13_3 < (l0.length : Int) := of_decide_eq_true (by first | (with_reducible assumption) | assumption)
 obtain ⟨ad314, A314_0, c314_0, e314, hx314_0, hl314_0, hi314_0⟩ := at_L1 HR0.out x13_3 p314 q314
 cases e314
 replace hx314_0 := (HB.out.cell (World.block_lt_of_cell? w _ hx314_0)).trans hx314_0
 have HR314_0 := Aside0.mk hi314_0
 have HC314_0 := Aside0.mk hl314_0
 clear hi314_0 hl314_0
 replace p314 := eq_true p314
 replace q314 := eq_true q314
 have p315 : 0 ≤ (x14_4 : Int) := of_decide_eq_true (by first | (with_reducible assumption) | assumption)
 have q315 : x14_4 < ((rd_L1 l0 x13_3).length : Int) := of_decide_eq_true (by first | (with_reducible assumption) | assumption)
 obtain ⟨ad315, e315, hx315_0⟩ := Kd.at_int HR314_0.out x14_4 p315 q315
 cases e315
 replace hx315_0 := (HB.out.cell (World.block_lt_of_cell? w _ hx315_0)).trans hx315_0
 replace p315 := eq_true p315
 replace q315 := eq_true q315
 go_wp2
 go_roundg kj31
 case measure => have := HK1.out; have := HK2.out; have := HK3.out; have := HK4.out; have := HJ31.out; omega
 case rel => exact ⟨(x9_4), (x12_4), (wrap64 (x14_4 + 1)), (by first | rfl | (simp; done) | (simp [*]; done)), (by first | rfl | (simp; done) | (simp [*]; done)), H', ⟨by have := HK1.out; have := HK2.out; have := HK3.out; have := HK4.out; have := HJ31.out; omega⟩, ⟨by (with_reducible repeat (first | apply Kd.R_alloc | apply Kd.R_drewN | apply Kd.R_drew)); exact HO_9.out⟩, ⟨by repeat (first | (with_reducible first | exact HB.out | apply below_alloc | apply pw_below_drewN | apply below_drew1) | exact HB.out)⟩⟩
 }
 {
 rw [if_neg c48] at H
 have c48b0 : ((rd (rd_L1 l0 x13_3) x14_4) == a3) = false := beq_eq_false_iff_ne.mpr c48
 have c48b1 : ((rd (rd_L1 l0 x13_3) x14_4) != a3) = true := bne_iff_ne.mpr c48
 by_cases c49 : 0 ≤ (rd (rd_L1 l0 x13_3) x14_4)
 {
 rw [if_pos c49] at H
 have c49b0 : decide (0 ≤ (rd (rd_L1 l0 x13_3) x14_4)) = true := decide_eq_true c49
 clear c49
 by_cases c50 : (rd (rd_L1 l0 x13_3) x14_4) < (x9_4.length : Int)
 {
 rw [if_pos c50] at H
 have c50b0 : decide ((rd (rd_L1 l0 x13_3) x14_4) < (x9_4.length : Int)) = true := decide_eq_true c50
 clear c50
 by_cases c51 : (rd x9_4 (rd (rd_L1 l0 x13_3) x14_4)) = 1
 {
 rw [if_pos c51] at H
 have c51b0 : ((rd x9_4 (rd (rd_L1 l0 x13_3) x14_4)) == 1) = true := beq_iff_eq.mpr c51
 have c51b1 : ((rd x9_4 (rd (rd_L1 l0 x13_3) x14_4)) != 1) = false := bne_eq_false_iff_eq.mpr c51
 clear c51
 by_cases c52 : x13_3 < (x9_4.length : Int)
 {
 rw [if_pos c52] at H
 have c52b0 : decide (x13_3 < (x9_4.length : Int)) = true := decide_eq_true c52
 clear c52
 obtain ⟨y317, hy317⟩ : ∃ y_ : List Int, y_ = (x9_4.set (x13_3 : Int).toNat 1) := ⟨_, rfl⟩
 replace H : (interlockref12_body.l4 kj31 l0 l2 a3 y317 true x13_3 (wrap64 (x14_4 + 1))) = some r := by first | (rw [hy317]; with_reducible exact H) | (have H2_ := (Option.bind_some _ _).symm.trans H; rw [hy317]; with_reducible exact H2_) | (have H2_ := (Option.bind_some _ _).symm.trans H; with_reducible exact H2_) | with_reducible exact H | (rw [hy317]; exact H) | exact H
 have Ny317 := Aside0.mk hy317
 clear hy317
 have H' := Aside0.mk H
 clear H
 have p314 : 0 ≤ (x13_3 : Int) := of_decide_eq_true (by first | (with_reducible assumption) | assumption)
 have q314 : x13_3 < (l0.length : Int) := of_decide_eq_true (by first | (with_reducible assumption) | assumption)
 obtain ⟨ad314, A314_0, c314_0, e314, hx314_0, hl314_0, hi314_0⟩ := at_L1 HR0.out x13_3 p314 q314
 cases e314
 replace hx314_0 := (HB.out.cell (World.block_lt_of_cell? w _ hx314_0)).trans hx314_0
 have HR314_0 := Aside0.mk hi314_0
 have HC314_0 := Aside0.mk hl314_0
 clear hi314_0 hl314_0
 replace p314 := eq_true p314
 replace q314 := eq_true q314
 have p315 : 0 ≤ (x14_4 : Int) := of_decide_eq_true (by first | (with_reducible assumption) | assumption)
 have q315 : x14_4 < ((rd_L1 l0 x13_3).length : Int) := of_decide_eq_true (by first | (with_reducible assumption) | assumption)
 obtain ⟨ad315, e315, hx315_0⟩ := Kd.at_int HR314_0.out x14_4 p315 q315
 cases e315
 replace hx315_0 := (HB.out.cell (World.block_lt_of_cell? w _ hx315_0)).trans hx315_0
 replace p315 := eq_true p315
 replace q315 := eq_true q315
 obtain ⟨Ao54, co54, eo54⟩ := Kd.R_slice HO_9.out
 subst eo54
 have p316 : 0 ≤ ((rd (rd_L1 l0 x13_3) x14_4) : Int) := of_decide_eq_true (by first | (with_reducible assumption) | assumption)
 have q316 : (rd (rd_L1 l0 x13_3) x14_4) < (x9_4.length : Int) := of_decide_eq_true (by first | (with_reducible assumption) | assumption)
 obtain ⟨ad316, e316, hx316_0⟩ := Kd.at_int (Kd.R_reads' HO_9.out).2.2 (rd (rd_L1 l0 x13_3) x14_4) p316 q316
 cases e316
 replace p316 := eq_true p316
 replace q316 := eq_true q316
 have p53 : 0 ≤ (x13_3 : Int) := of_decide_eq_true (by first | (with_reducible assumption) | assumption)
 have q53 : (x13_3 : Int) < ((x9_4.length : Int) : Int) := of_decide_eq_true (by first | (with_reducible assumption) | assumption)
 obtain ⟨go53, co53, eo53, gb53, gl53, cl53, HG53⟩ := Kd.R_form HO_9.out (by omega)
 (first | cases eo53 | (injection eo53 with ea_ en_ ec_; (first | subst ea_ | (injection ea_ with ea_; subst ea_)); subst ec_; clear en_))
 have GB53 := Aside0.mk gb53
 have GG53 := Aside0.mk HG53
 clear gb53 gl53 HG53
 (first | simp only [add_plain] at hx316_0 | skip)
 obtain ⟨hx53_0, hf53_0⟩ := Kd.R_celln 0 HO_9.out (x13_3 : Int) p53 q53
 replace p53 := eq_true p53
 replace q53 := eq_true q53
 have HP55 := Kd.R_putg HO_9.out (x13_3 : Int) 1
 go_wp2_with (first | ((with_reducible refine gate_store (t := 3) (p := 121) rfl ?_); refine store_event (t := 3) (p := 121) (v := ?vo_w56) (w1 := (wc.setCell ⟨go53, (x13_3 : Int).toNat, none⟩ (.int .i64 1))) ?hg ?ho ?hn ?hr ?_; (case ho => rfl); (case hg => rfl); (case hn => rfl); (case hr => first | (go_simp; done) | (go_simp; rfl)); intro w56 hw; have hg : wc.grownBy w56 (some go53) := (by rw [hw]; exact HP55.2); have hp_ : Kd.R (Kd.int .i64) 3 w56 w.heap.size (fun _ => True) (.slice (some ⟨go53, 0, none⟩) x9_4.length co54) y317 := (by rw [hw, Ny317.out]; exact HP55.1); clear HP55; have n0_ := Aside0.mk (hp_); have n1_ := Aside0.mk ((by rw [hw]; exact below_set (HB.out) GB53.out : Below w.heap.size w w56)); clear HO_9; clear HB; have HO_9 := n0_; have HB := n1_; clear n0_ n1_; clear hg hw hp_))
 go_roundg kj31
 case measure => have := HK1.out; have := HK2.out; have := HK3.out; have := HK4.out; have := HJ31.out; omega
 case rel => exact ⟨(y317), (true), (wrap64 (x14_4 + 1)), (by first | rfl | (simp; done) | (simp [*]; done)), (by first | rfl | (simp; done) | (simp [*]; done)), H', ⟨by have := HK1.out; have := HK2.out; have := HK3.out; have := HK4.out; have := HJ31.out; omega⟩, ⟨by (with_reducible repeat (first | apply Kd.R_alloc | apply Kd.R_drewN | apply Kd.R_drew)); exact HO_9.out⟩, ⟨by repeat (first | (with_reducible first | exact HB.out | apply below_alloc | apply pw_below_drewN | apply below_drew1) | exact HB.out)⟩⟩
 }
 {
 rw [if_neg c52] at H
 exact absurd H (by simp)
 }
 }
 {
 rw [if_neg c51] at H
 have c51b0 : ((rd x9_4 (rd (rd_L1 l0 x13_3) x14_4)) == 1) = false := beq_eq_false_iff_ne.mpr c51
 have c51b1 : ((rd x9_4 (rd (rd_L1 l0 x13_3) x14_4)) != 1) = true := bne_iff_ne.mpr c51
 have H' := Aside0.mk H
 clear H
 have p314 : 0 ≤ (x13_3 : Int) := of_decide_eq_true (by first | (with_reducible assumption) | assumption)
 have q314 : x13_3 < (l0.length : Int) := of_decide_eq_true (by first | (with_reducible assumption) | assumption)
 obtain ⟨ad314, A314_0, c314_0, e314, hx314_0, hl314_0, hi314_0⟩ := at_L1 HR0.out x13_3 p314 q314
 cases e314
 replace hx314_0 := (HB.out.cell (World.block_lt_of_cell? w _ hx314_0)).trans hx314_0
 have HR314_0 := Aside0.mk hi314_0
 have HC314_0 := Aside0.mk hl314_0
 clear hi314_0 hl314_0
 replace p314 := eq_true p314
 replace q314 := eq_true q314
 have p315 : 0 ≤ (x14_4 : Int) := of_decide_eq_true (by first | (with_reducible assumption) | assumption)
 have q315 : x14_4 < ((rd_L1 l0 x13_3).length : Int) := of_decide_eq_true (by first | (with_reducible assumption) | assumption)
 obtain ⟨ad315, e315, hx315_0⟩ := Kd.at_int HR314_0.out x14_4 p315 q315
 cases e315
 replace hx315_0 := (HB.out.cell (World.block_lt_of_cell? w _ hx315_0)).trans hx315_0
 replace p315 := eq_true p315
 replace q315 := eq_true q315
 obtain ⟨Ao57, co57, eo57⟩ := Kd.R_slice HO_9.out
 subst eo57
 have p316 : 0 ≤ ((rd (rd_L1 l0 x13_3) x14_4) : Int) := of_decide_eq_true (by first | (with_reducible assumption) | assumption)
 have q316 : (rd (rd_L1 l0 x13_3) x14_4) < (x9_4.length : Int) := of_decide_eq_true (by first | (with_reducible assumption) | assumption)
 obtain ⟨ad316, e316, hx316_0⟩ := Kd.at_int (Kd.R_reads' HO_9.out).2.2 (rd (rd_L1 l0 x13_3) x14_4) p316 q316
 cases e316
 replace p316 := eq_true p316
 replace q316 := eq_true q316
 go_wp2
 go_roundg kj31
 case measure => have := HK1.out; have := HK2.out; have := HK3.out; have := HK4.out; have := HJ31.out; omega
 case rel => exact ⟨(x9_4), (x12_4), (wrap64 (x14_4 + 1)), (by first | rfl | (simp; done) | (simp [*]; done)), (by first | rfl | (simp; done) | (simp [*]; done)), H', ⟨by have := HK1.out; have := HK2.out; have := HK3.out; have := HK4.out; have := HJ31.out; omega⟩, ⟨by (with_reducible repeat (first | apply Kd.R_alloc | apply Kd.R_drewN | apply Kd.R_drew)); exact HO_9.out⟩, ⟨by repeat (first | (with_reducible first | exact HB.out | apply below_alloc | apply pw_below_drewN | apply below_drew1) | exact HB.out)⟩⟩
 }
 }
 {
 rw [if_neg c50] at H
 exact absurd H (by simp)
 }
 }
 {
 rw [if_neg c49] at H
 exact absurd H (by simp)
 }
 }
 }
 {
 rw [if_neg c47] at H
 have c47b0 : decide ((rd (rd_L1 l0 x13_3) x14_4) < (l0.length : Int)) = false := decide_eq_false c47
 clear c47
 have H' := Aside0.mk H
 clear H
 have p314 : 0 ≤ (x13_3 : Int) := of_decide_eq_true (by first | (with_reducible assumption) | assumption)
 have q314 : x13_3 < (l0.length : Int) := of_decide_eq_true (by first | (with_reducible assumption) | assumption)
 obtain ⟨ad314, A314_0, c314_0, e314, hx314_0, hl314_0, hi314_0⟩ := at_L1 HR0.out x13_3 p314 q314
 cases e314
 replace hx314_0 := (HB.out.cell (World.block_lt_of_cell? w _ hx314_0)).trans hx314_0
 have HR314_0 := Aside0.mk hi314_0
 have HC314_0 := Aside0.mk hl314_0
 clear hi314_0 hl314_0
 replace p314 := eq_true p314
 replace q314 := eq_true q314
 have p315 : 0 ≤ (x14_4 : Int) := of_decide_eq_true (by first | (with_reducible assumption) | assumption)
 have q315 : x14_4 < ((rd_L1 l0 x13_3).length : Int) := of_decide_eq_true (by first | (with_reducible assumption) | assumption)
 obtain ⟨ad315, e315, hx315_0⟩ := Kd.at_int HR314_0.out x14_4 p315 q315
 cases e315
 replace hx315_0 := (HB.out.cell (World.block_lt_of_cell? w _ hx315_0)).trans hx315_0
 replace p315 := eq_true p315
 replace q315 := eq_true q315
 go_wp2
 go_roundg kj31
 case measure => have := HK1.out; have := HK2.out; have := HK3.out; have := HK4.out; have := HJ31.out; omega
 case rel => exact ⟨(x9_4), (x12_4), (wrap64 (x14_4 + 1)), (by first | rfl | (simp; done) | (simp [*]; done)), (by first | rfl | (simp; done) | (simp [*]; done)), H', ⟨by have := HK1.out; have := HK2.out; have := HK3.out; have := HK4.out; have := HJ31.out; omega⟩, ⟨by (with_reducible repeat (first | apply Kd.R_alloc | apply Kd.R_drewN | apply Kd.R_drew)); exact HO_9.out⟩, ⟨by repeat (first | (with_reducible first | exact HB.out | apply below_alloc | apply pw_below_drewN | apply below_drew1) | exact HB.out)⟩⟩
 }
 }
 {
 rw [if_neg c46] at H
 have c46b0 : decide (0 ≤ (rd (rd_L1 l0 x13_3) x14_4)) = false := decide_eq_false c46
 clear c46
 have H' := Aside0.mk H
 clear H
 have p314 : 0 ≤ (x13_3 : Int) := of_decide_eq_true (by first | (with_reducible assumption) | assumption)
 have q314 : x13_3 < (l0.length : Int) := of_decide_eq_true (by first | (with_reducible assumption) | assumption)
 obtain ⟨ad314, A314_0, c314_0, e314, hx314_0, hl314_0, hi314_0⟩ := at_L1 HR0.out x13_3 p314 q314
 cases e314
 replace hx314_0 := (HB.out.cell (World.block_lt_of_cell? w _ hx314_0)).trans hx314_0
 have HR314_0 := Aside0.mk hi314_0
 have HC314_0 := Aside0.mk hl314_0
 clear hi314_0 hl314_0
 replace p314 := eq_true p314
 replace q314 := eq_true q314
 have p315 : 0 ≤ (x14_4 : Int) := of_decide_eq_true (by first | (with_reducible assumption) | assumption)
 have q315 : x14_4 < ((rd_L1 l0 x13_3).length : Int) := of_decide_eq_true (by first | (with_reducible assumption) | assumption)
 obtain ⟨ad315, e315, hx315_0⟩ := Kd.at_int HR314_0.out x14_4 p315 q315
 cases e315
 replace hx315_0 := (HB.out.cell (World.block_lt_of_cell? w _ hx315_0)).trans hx315_0
 replace p315 := eq_true p315
 replace q315 := eq_true q315
 go_wp2
 go_roundg kj31
 case measure => have := HK1.out; have := HK2.out; have := HK3.out; have := HK4.out; have := HJ31.out; omega
 case rel => exact ⟨(x9_4), (x12_4), (wrap64 (x14_4 + 1)), (by first | rfl | (simp; done) | (simp [*]; done)), (by first | rfl | (simp; done) | (simp [*]; done)), H', ⟨by have := HK1.out; have := HK2.out; have := HK3.out; have := HK4.out; have := HJ31.out; omega⟩, ⟨by (with_reducible repeat (first | apply Kd.R_alloc | apply Kd.R_drewN | apply Kd.R_drew)); exact HO_9.out⟩, ⟨by repeat (first | (with_reducible first | exact HB.out | apply below_alloc | apply pw_below_drewN | apply below_drew1) | exact HB.out)⟩⟩
 }
 }
 {
 rw [if_neg c45] at H
 exact absurd H (by simp)
 }
 }
 {
 rw [if_neg c44] at H
 exact absurd H (by simp)
 }
 }
 {
 rw [if_neg c43] at H
 exact absurd H (by simp)
 }
 }
 {
 rw [if_neg c42] at H
 exact absurd H (by simp)
 }
 }
 {
 replace c41 := Bool.eq_false_iff.mpr c41
 subst c41
 have H1 : (interlockref12_body.l3 kj31 l0 l2 a3 x9_4 x12_4 (wrap64 (x13_3 + 1))) = some r := by rw [if_neg (show ¬ (false = true) by decide)] at H; exact H
 clear H
 have H := H1
 clear H1
 have H' := Aside0.mk H
 clear H
 go_wp2
 go_roundg kj31
 case measure => have := HK1.out; have := HK2.out; have := HK3.out; have := HK4.out; have := HJ31.out; omega
 case rel => exact ⟨(x9_4), (x12_4), (wrap64 (x13_3 + 1)), (by first | rfl | (simp; done) | (simp [*]; done)), (by first | rfl | (simp; done) | (simp [*]; done)), H', ⟨by have := HK1.out; have := HK2.out; have := HK3.out; have := HK4.out; have := HJ31.out; omega⟩, ⟨by (with_reducible repeat (first | apply Kd.R_alloc | apply Kd.R_drewN | apply Kd.R_drew)); exact HO_9.out⟩, ⟨by repeat (first | (with_reducible first | exact HB.out | apply below_alloc | apply pw_below_drewN | apply below_drew1) | exact HB.out)⟩⟩
 }
 )
 )
 )
 )
 }
 {
 rw [if_neg c31] at H
 have c31b0 : decide (x13_3 < (l0.length : Int)) = false := decide_eq_false c31
 clear c31
 have H' := Aside0.mk H
 clear H
 go_wp2
 go_roundg k3
 case measure => have := HK1.out; have := HK2.out; have := HK3.out; omega
 case rel => exact ⟨(x9_3), (x12_3), (by first | rfl | (simp; done) | (simp [*]; done)), H', ⟨by have := HK1.out; have := HK2.out; have := HK3.out; omega⟩, ⟨by (with_reducible repeat (first | apply Kd.R_alloc | apply Kd.R_drewN | apply Kd.R_drew)); exact HO_9.out⟩, ⟨by repeat (first | (with_reducible first | exact HB.out | apply below_alloc | apply pw_below_drewN | apply below_drew1) | exact HB.out)⟩⟩
 }
 )
 )
 }
 {
 replace c30 := Bool.eq_false_iff.mpr c30
 subst c30
 have H1 : (some x9_2) = some r := by rw [if_neg (show ¬ (false = true) by decide)] at H; exact H
 clear H
 have H := H1
 clear H1
 obtain rfl := Option.some.inj H
 go_wp2
 go_ret
 exact ⟨_, by first | rfl | (simp [errW_none, errW_some] <;> rfl) | (simp [*, errW_none, errW_some] <;> rfl), by (with_reducible repeat (first | apply Kd.R_alloc | apply Kd.R_drewN | apply Kd.R_drew)); exact HO_9.out, by repeat (first | (with_reducible first | exact HB.out | apply below_alloc | apply pw_below_drewN | apply below_drew1) | exact HB.out)⟩
 }
 )
 )
 }
 )
 )
 }
 {
 rw [if_neg c6] at H
 exact absurd H (by simp)
 }
 }
 {
 rw [if_neg c5] at H
 exact absurd H (by simp)
 }
end Go.Proofs.YtbnkeddnibjncaaDoor.P
