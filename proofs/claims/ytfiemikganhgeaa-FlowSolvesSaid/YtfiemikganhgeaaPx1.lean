-- written by this project's xprint.py (a turn of the kit's printer; its own texts among them)
import Derived.Test.YtfiemikganhgeaaPx0
namespace Go.Proofs.Ytfiemikganhgeaa.P
open Go.RowKit Go.Proofs.YtfiemikganhgeaaW.PrintWords Go.Proofs.YtfiemikganhgeaaW.PrintLast Go.Proofs.YtfiemikganhgeaaW.PrintMore
attribute [local go_sem] max2_int min2_int max_two min_two max_three min_three max_four min_four   -- for this text's walks alone
attribute [local irreducible] Calls
set_option linter.unusedVariables false
set_option linter.unusedSimpArgs false

/-! ### slices_IndexFunc_int_int: function 31 -/
-- taken with its maker

/-! ### slices_DeleteFunc_int_int: function 20 -/
-- taken with its maker

/-! ### slices_Clone_int_int: function 21 -/
-- taken with its maker

/-! ### flow_inside: function 13 -/
-- taken with its maker

/-! ### cfg_Preds: function 14 -/
mutual
def cfg_Preds.l0 : Nat → List (List Int) → List (List Int) → Int → Int → Option ((List (List Int)))
  | 0, _, _, _, _ => none
  | k + 1, x3, x12, x13, x14 => if x14 < x13 then (if 0 ≤ x14 then (if x14 < (x12.length : Int) then (cfg_Preds.l1 k x3 x14 x12 x13 x14 (rd_L1 x12 x14) ((rd_L1 x12 x14).length : Int) 0) else (none)) else (none)) else (some x3)
def cfg_Preds.l1 : Nat → List (List Int) → Int → List (List Int) → Int → Int → List Int → Int → Int → Option ((List (List Int)))
  | 0, _, _, _, _, _, _, _, _ => none
  | k + 1, x3, x4, x12, x13, x14, x19, x20, x21 => if x21 < x20 then (if 0 ≤ x21 then (if x21 < (x19.length : Int) then (if (rd x19 x21) < 0 then (cfg_Preds.j2 k x3 x4 (rd x19 x21) x12 x13 x14 x19 x20 x21 true) else (cfg_Preds.j2 k x3 x4 (rd x19 x21) x12 x13 x14 x19 x20 x21 (decide ((rd x19 x21) ≥ (x3.length : Int))))) else (none)) else (none)) else (cfg_Preds.l0 k x3 x12 x13 (wrap64 (x14 + 1)))
def cfg_Preds.j2 : Nat → List (List Int) → Int → Int → List (List Int) → Int → Int → List Int → Int → Int → Bool → Option ((List (List Int)))
  | 0, _, _, _, _, _, _, _, _, _, _ => none
  | k + 1, x3, x4, x7, x12, x13, x14, x19, x20, x21, x32 => if x32 = true then (cfg_Preds.l1 k x3 x4 x12 x13 x14 x19 x20 (wrap64 (x21 + 1))) else (if 0 ≤ x7 then (if x7 < (x3.length : Int) then (if ((rd_L1 x3 x7).length : Int) = 0 then (if (rd_L1 x3 x7).length < 17592186044416 then (cfg_Preds.l1 k (x3.set (x7 : Int).toNat ((rd_L1 x3 x7) ++ [x4])) x4 x12 x13 x14 x19 x20 (wrap64 (x21 + 1))) else (none)) else (if 0 ≤ (wrap64 (((rd_L1 x3 x7).length : Int) - 1)) then (if (wrap64 (((rd_L1 x3 x7).length : Int) - 1)) < ((rd_L1 x3 x7).length : Int) then (if (rd (rd_L1 x3 x7) (wrap64 (((rd_L1 x3 x7).length : Int) - 1))) = x4 then (cfg_Preds.l1 k x3 x4 x12 x13 x14 x19 x20 (wrap64 (x21 + 1))) else (if (rd_L1 x3 x7).length < 17592186044416 then (cfg_Preds.l1 k (x3.set (x7 : Int).toNat ((rd_L1 x3 x7) ++ [x4])) x4 x12 x13 x14 x19 x20 (wrap64 (x21 + 1))) else (none))) else (none)) else (none))) else (none)) else (none))
end
def cfg_Preds.f (k : Nat) (l0 : List (List Int)) : Option ((List (List Int))) := if 0 ≤ (l0.length : Int) then (if ((l0.length : Int) : Int).toNat ≤ 11728124029610 then (cfg_Preds.l0 k (List.replicate ((l0.length : Int) : Int).toNat []) l0 (l0.length : Int) 0) else (none)) else (none)
theorem cfg_Preds.mono_l : ∀ k, (∀ y0 y1 y2 y3, LeO (cfg_Preds.l0 k y0 y1 y2 y3) (cfg_Preds.l0 (k + 1) y0 y1 y2 y3)) ∧ (∀ y0 y1 y2 y3 y4 y5 y6 y7, LeO (cfg_Preds.l1 k y0 y1 y2 y3 y4 y5 y6 y7) (cfg_Preds.l1 (k + 1) y0 y1 y2 y3 y4 y5 y6 y7)) ∧ (∀ y0 y1 y2 y3 y4 y5 y6 y7 y8 y9, LeO (cfg_Preds.j2 k y0 y1 y2 y3 y4 y5 y6 y7 y8 y9) (cfg_Preds.j2 (k + 1) y0 y1 y2 y3 y4 y5 y6 y7 y8 y9))
  | 0 => ⟨fun _ _ _ _ r h => by simp [cfg_Preds.l0] at h, fun _ _ _ _ _ _ _ _ r h => by simp [cfg_Preds.l1] at h, fun _ _ _ _ _ _ _ _ _ _ r h => by simp [cfg_Preds.j2] at h⟩
  | k + 1 => by
    obtain ⟨ih0, ih1, ih2⟩ := cfg_Preds.mono_l k
    refine ⟨?_, ?_, ?_⟩
    · intro y0 y1 y2 y3
      unfold cfg_Preds.l0
      repeat' first
      | (with_reducible exact ih0 _ _ _ _)
      | (with_reducible exact ih1 _ _ _ _ _ _ _ _)
      | (with_reducible exact ih2 _ _ _ _ _ _ _ _ _ _)
      | (with_reducible exact LeO.refl _)
      | (with_reducible exact LeO.none _)
      | (with_reducible refine LeO.ite ?_ ?_)
      | (with_reducible refine LeO.bind ?_ (fun _ => ?_))
      | exact ih0 _ _ _ _
      | exact ih1 _ _ _ _ _ _ _ _
      | exact ih2 _ _ _ _ _ _ _ _ _ _
      | exact LeO.none _
      | refine LeO.ite ?_ ?_
      | refine LeO.bind ?_ (fun _ => ?_)
    · intro y0 y1 y2 y3 y4 y5 y6 y7
      unfold cfg_Preds.l1
      repeat' first
      | (with_reducible exact ih0 _ _ _ _)
      | (with_reducible exact ih1 _ _ _ _ _ _ _ _)
      | (with_reducible exact ih2 _ _ _ _ _ _ _ _ _ _)
      | (with_reducible exact LeO.refl _)
      | (with_reducible exact LeO.none _)
      | (with_reducible refine LeO.ite ?_ ?_)
      | (with_reducible refine LeO.bind ?_ (fun _ => ?_))
      | exact ih0 _ _ _ _
      | exact ih1 _ _ _ _ _ _ _ _
      | exact ih2 _ _ _ _ _ _ _ _ _ _
      | exact LeO.none _
      | refine LeO.ite ?_ ?_
      | refine LeO.bind ?_ (fun _ => ?_)
    · intro y0 y1 y2 y3 y4 y5 y6 y7 y8 y9
      unfold cfg_Preds.j2
      repeat' first
      | (with_reducible exact ih0 _ _ _ _)
      | (with_reducible exact ih1 _ _ _ _ _ _ _ _)
      | (with_reducible exact ih2 _ _ _ _ _ _ _ _ _ _)
      | (with_reducible exact LeO.refl _)
      | (with_reducible exact LeO.none _)
      | (with_reducible refine LeO.ite ?_ ?_)
      | (with_reducible refine LeO.bind ?_ (fun _ => ?_))
      | exact ih0 _ _ _ _
      | exact ih1 _ _ _ _ _ _ _ _
      | exact ih2 _ _ _ _ _ _ _ _ _ _
      | exact LeO.none _
      | refine LeO.ite ?_ ?_
      | refine LeO.bind ?_ (fun _ => ?_)
theorem cfg_Preds.mono : ∀ a0 k, LeO (cfg_Preds.f k a0) (cfg_Preds.f (k + 1) a0) := by
  intro a0 k
  obtain ⟨ih0, ih1, ih2⟩ := cfg_Preds.mono_l k
  unfold cfg_Preds.f
  repeat' first
      | (with_reducible exact ih0 _ _ _ _)
      | (with_reducible exact ih1 _ _ _ _ _ _ _ _)
      | (with_reducible exact ih2 _ _ _ _ _ _ _ _ _ _)
      | (with_reducible exact LeO.refl _)
      | (with_reducible exact LeO.none _)
      | (with_reducible refine LeO.ite ?_ ?_)
      | (with_reducible refine LeO.bind ?_ (fun _ => ?_))
      | exact ih0 _ _ _ _
      | exact ih1 _ _ _ _ _ _ _ _
      | exact ih2 _ _ _ _ _ _ _ _ _ _
      | exact LeO.none _
      | refine LeO.ite ?_ ?_
      | refine LeO.bind ?_ (fun _ => ?_)
set_option maxHeartbeats 8000000 in
set_option maxRecDepth 100000 in
theorem cfg_Preds.calls (k : Nat) (A0 : Option Addr) (c0 : Nat) (l0 : List (List Int)) (r : List (List Int)) (w : World) (hr0 : Kd.C (Kd.slice 3 (Kd.int .i64)) w A0 l0.length l0) (hc0 : l0.length ≤ c0) (h : cfg_Preds.f k l0 = some r) :
    Calls Try.prog 14 #[.slice A0 l0.length c0] w fun e w' => ∃ v0_ : Value, e = .returned (v0_) ∧ Kd.S (Kd.slice 3 (Kd.int .i64)) 33 w' w.heap.size (fun _ => True) v0_ r ∧ Below w.heap.size w w' := by
 have HR0 := Aside0.mk hr0
 have HC0 := Aside0.mk hc0
 clear hr0 hc0
 have HB := Aside0.mk (Below.refl w.heap.size w)
 have H : (if 0 ≤ (l0.length : Int) then (if ((l0.length : Int) : Int).toNat ≤ 11728124029610 then (cfg_Preds.l0 k (List.replicate ((l0.length : Int) : Int).toNat []) l0 (l0.length : Int) 0) else (none)) else (none)) = some r := h
 clear h
 by_cases c2 : 0 ≤ (l0.length : Int)
 {
 rw [if_pos c2] at H
 have c2b0 := eq_true c2
 have c2b1 : decide (0 ≤ (l0.length : Int)) = true := decide_eq_true c2
 clear c2
 by_cases c3 : ((l0.length : Int) : Int).toNat ≤ 11728124029610
 {
 rw [if_pos c3] at H
 have c3b0 := eq_true c3
 have c3b1 : decide (((l0.length : Int) : Int).toNat ≤ 11728124029610) = true := decide_eq_true c3
 clear c3
 obtain ⟨y101, hy101⟩ : ∃ y_ : List (List Int), y_ = (List.replicate ((l0.length : Int) : Int).toNat []) := ⟨_, rfl⟩
 replace H : (cfg_Preds.l0 k y101 l0 (l0.length : Int) 0) = some r := by first | (rw [hy101]; with_reducible exact H) | (have H2_ := (Option.bind_some _ _).symm.trans H; rw [hy101]; with_reducible exact H2_) | (have H2_ := (Option.bind_some _ _).symm.trans H; with_reducible exact H2_) | with_reducible exact H | (rw [hy101]; exact H) | exact H
 have Ny101 := Aside0.mk hy101
 clear hy101
 have H' := Aside0.mk H
 clear H
 go_enter Try.func14, Try.ntmps14
 go_wp2_with (first | ((with_reducible refine gate_dst (N := 11) rfl ?_); (try (refine gate_guard (by rfl) ?_; dsimp only)); refine Kd.S_make (Kd.slice 3 (Kd.int .i64)) _ 33 rfl (N := 11) rfl 26 _ _ rfl (l0.length : Int) rfl rfl Try.underlying26 (.slice none 0 0) 24 info33 rfl (by decide) (by omega) [] (ok := fun _ => True) (okp := fun _ => True) ⟨_, rfl, Kd.R_nil _ _ _ _ _⟩ (fun _ hk => hk) trivial (of_decide_eq_true (by first | (with_reducible assumption) | assumption)) (Nat.le_trans (Nat.mul_le_mul_right _ (of_decide_eq_true (by first | (with_reducible assumption) | assumption) : (l0.length : Int).toNat ≤ 11728124029610)) (by omega)) (Below.refl _ _) (Nat.le_refl _) ?_; intro v102 w4 ho5 hb hg_ hnew_; clear hg_ hnew_; (first | rw [← Ny101.out] at ho5 | (simp only [Int.reduceToNat] at ho5; rw [← Ny101.out] at ho5)); have n0_ := Aside0.mk (Kd.S_lower ho5 (below_size (by repeat (first | (with_reducible first | exact HB.out | apply below_alloc | apply pw_below_drewN | apply below_drew1) | exact HB.out)))); have n1_ := Aside0.mk (below_step (by repeat (first | (with_reducible first | exact HB.out | apply below_alloc | apply pw_below_drewN | apply below_drew1) | exact HB.out)) hb); clear HB; have HO103 := n0_; have HB := n1_; clear n0_ n1_; clear hb ho5))
 go_loopg [14] k (fun kq v14 w' => ∃ (x3_1 : List (List Int)) (x14_1 : Int), v14 = .int .i64 x14_1 ∧ Aside0 (cfg_Preds.l0 kq x3_1 l0 (l0.length : Int) x14_1 = some r) ∧ Aside0 (kq ≤ k) ∧ Aside0 (Kd.S (Kd.slice 3 (Kd.int .i64)) 33 w' w.heap.size (fun _ => True) v102 x3_1) ∧ Aside0 (Below w.heap.size w w'))
 case atStart => exact ⟨(y101), (0), (by first | rfl | (simp; done) | (simp [*]; done)), H', ⟨Nat.le_refl _⟩, ⟨by (with_reducible repeat (first | apply Kd.S_alloc | apply Kd.S_drewN | apply Kd.S_drew)); exact HO103.out⟩, ⟨by repeat (first | (with_reducible first | exact HB.out | apply below_alloc | apply pw_below_drewN | apply below_drew1) | exact HB.out)⟩⟩
 case round => (
 clear H'
 try clear c1
 try clear c2
 try clear c2b0
 try clear c2b1
 try clear p2
 try clear c3
 try clear c3b0
 try clear c3b1
 obtain ⟨x3_1, x14_1, rfl, HA, HK1, HO_3, HB⟩ := hrel
 cases gk with
 | zero => exact absurd HA.out (by simp [cfg_Preds.l0])
 | succ k1 => (
 have H := HA.out
 clear HA
 simp only [cfg_Preds.l0] at H
 by_cases c6 : x14_1 < (l0.length : Int)
 {
 rw [if_pos c6] at H
 have c6b0 : decide (x14_1 < (l0.length : Int)) = true := decide_eq_true c6
 clear c6
 by_cases c7 : 0 ≤ x14_1
 {
 rw [if_pos c7] at H
 have c7b0 : decide (0 ≤ x14_1) = true := decide_eq_true c7
 clear c7
 by_cases c8 : x14_1 < (l0.length : Int)
 {
 rw [if_pos c8] at H
 have c8b0 : decide (x14_1 < (l0.length : Int)) = true := decide_eq_true c8
 clear c8
 have H' := Aside0.mk H
 clear H
 have p104 : 0 ≤ (x14_1 : Int) := of_decide_eq_true (by first | (with_reducible assumption) | assumption)
 have q104 : x14_1 < (l0.length : Int) := of_decide_eq_true (by first | (with_reducible assumption) | assumption)
 obtain ⟨ad104, A104_0, c104_0, e104, hx104_0, hl104_0, hi104_0⟩ := at_L1 HR0.out x14_1 p104 q104
 cases e104
 replace hx104_0 := (HB.out.cell (World.block_lt_of_cell? w _ hx104_0)).trans hx104_0
 have HR104_0 := Aside0.mk hi104_0
 have HC104_0 := Aside0.mk hl104_0
 clear hi104_0 hl104_0
 replace p104 := eq_true p104
 replace q104 := eq_true q104
 go_wp2
 go_loopg [21] k1 (fun kq v21 w' => ∃ (x3_2 : List (List Int)) (x21_2 : Int), v21 = .int .i64 x21_2 ∧ Aside0 (cfg_Preds.l1 kq x3_2 x14_1 l0 (l0.length : Int) x14_1 (rd_L1 l0 x14_1) ((rd_L1 l0 x14_1).length : Int) x21_2 = some r) ∧ Aside0 (kq ≤ k1) ∧ Aside0 (Kd.S (Kd.slice 3 (Kd.int .i64)) 33 w' w.heap.size (fun _ => True) v102 x3_2) ∧ Aside0 (Below w.heap.size w w'))
 case atStart => exact ⟨(x3_1), (0), (by first | rfl | (simp; done) | (simp [*]; done)), H', ⟨Nat.le_refl _⟩, ⟨by (with_reducible repeat (first | apply Kd.S_alloc | apply Kd.S_drewN | apply Kd.S_drew)); exact HO_3.out⟩, ⟨by repeat (first | (with_reducible first | exact HB.out | apply below_alloc | apply pw_below_drewN | apply below_drew1) | exact HB.out)⟩⟩
 case round => (
 clear H'
 try clear c1
 try clear p1
 try clear q1
 try clear hx1
 try clear c2
 try clear c2b0
 try clear c2b1
 try clear p2
 try clear c3
 try clear c3b0
 try clear c3b1
 try clear c6
 try clear c6b0
 try clear c7
 try clear c7b0
 try clear c8
 try clear c8b0
 try clear hx104_0
 try clear p104
 try clear p2
 try clear q104
 obtain ⟨x3_2, x21_2, rfl, HA, HK2, HO_3, HB⟩ := hrel
 cases gk with
 | zero => exact absurd HA.out (by simp [cfg_Preds.l1])
 | succ k2 => (
 have H := HA.out
 clear HA
 simp only [cfg_Preds.l1] at H
 by_cases c9 : x21_2 < ((rd_L1 l0 x14_1).length : Int)
 {
 rw [if_pos c9] at H
 have c9b0 : decide (x21_2 < ((rd_L1 l0 x14_1).length : Int)) = true := decide_eq_true c9
 clear c9
 by_cases c10 : 0 ≤ x21_2
 {
 rw [if_pos c10] at H
 have c10b0 : decide (0 ≤ x21_2) = true := decide_eq_true c10
 clear c10
 by_cases c11 : x21_2 < ((rd_L1 l0 x14_1).length : Int)
 {
 rw [if_pos c11] at H
 have c11b0 : decide (x21_2 < ((rd_L1 l0 x14_1).length : Int)) = true := decide_eq_true c11
 clear c11
 have HC12 := Aside0.mk H
 clear H
 have p105 : 0 ≤ (x21_2 : Int) := of_decide_eq_true (by first | (with_reducible assumption) | assumption)
 have q105 : x21_2 < ((rd_L1 l0 x14_1).length : Int) := of_decide_eq_true (by first | (with_reducible assumption) | assumption)
 obtain ⟨ad105, e105, hx105_0⟩ := Kd.at_int HR104_0.out x21_2 p105 q105
 cases e105
 replace hx105_0 := (HB.out.cell (World.block_lt_of_cell? w _ hx105_0)).trans hx105_0
 replace p105 := eq_true p105
 replace q105 := eq_true q105
 go_upto_region 8 with (fail)
 go_cut [32] (fun v32 wc => ∃ (kq : Nat) (x32_11 : Bool), v32 = .bool x32_11 ∧ Aside0 (cfg_Preds.j2 kq x3_2 x14_1 (rd (rd_L1 l0 x14_1) x21_2) l0 (l0.length : Int) x14_1 (rd_L1 l0 x14_1) ((rd_L1 l0 x14_1).length : Int) x21_2 x32_11 = some r) ∧ Aside0 (kq ≤ k2) ∧ Aside0 (Kd.S (Kd.slice 3 (Kd.int .i64)) 33 wc w.heap.size (fun _ => True) v102 x3_2) ∧ Aside0 (Below w.heap.size w wc))
 case first => (
 have H := HC12.out
 clear HC12
 by_cases c13 : (rd (rd_L1 l0 x14_1) x21_2) < 0
 {
 rw [if_pos c13] at H
 have c13b0 : decide ((rd (rd_L1 l0 x14_1) x21_2) < 0) = true := decide_eq_true c13
 clear c13
 (first | rw [c13b0] | (simp only [i64_w, i32_w]; rw [c13b0]) | skip)
 have H' := Aside0.mk H
 clear H
 go_wp2
 go_meet
 case rel => exact ⟨_, (true), (by first | rfl | (simp; done) | (simp [*]; done)), H', ⟨by have := HK1.out; have := HK2.out; first | omega | exact Nat.le_refl _⟩, ⟨by (with_reducible repeat (first | apply Kd.S_alloc | apply Kd.S_drewN | apply Kd.S_drew)); exact HO_3.out⟩, ⟨by repeat (first | (with_reducible first | exact HB.out | apply below_alloc | apply pw_below_drewN | apply below_drew1) | exact HB.out)⟩⟩
 }
 {
 rw [if_neg c13] at H
 have c13b0 : decide ((rd (rd_L1 l0 x14_1) x21_2) < 0) = false := decide_eq_false c13
 clear c13
 (first | rw [c13b0] | (simp only [i64_w, i32_w]; rw [c13b0]) | skip)
 have H' := Aside0.mk H
 clear H
 obtain ⟨Ao14, co14, eo14⟩ := Kd.S_slice HO_3.out
 subst eo14
 go_wp2
 go_meet
 case rel => exact ⟨_, (decide ((rd (rd_L1 l0 x14_1) x21_2) ≥ (x3_2.length : Int))), (by first | rfl | (simp; done) | (simp [*]; done)), H', ⟨by have := HK1.out; have := HK2.out; first | omega | exact Nat.le_refl _⟩, ⟨by (with_reducible repeat (first | apply Kd.S_alloc | apply Kd.S_drewN | apply Kd.S_drew)); exact HO_3.out⟩, ⟨by repeat (first | (with_reducible first | exact HB.out | apply below_alloc | apply pw_below_drewN | apply below_drew1) | exact HB.out)⟩⟩
 }
 )
 case rest => (
 clear HC12
 try clear c1
 try clear p1
 try clear q1
 try clear hx1
 try clear c2
 try clear c2b0
 try clear c2b1
 try clear p2
 try clear c3
 try clear c3b0
 try clear c3b1
 try clear c6
 try clear c6b0
 try clear c7
 try clear c7b0
 try clear c8
 try clear c8b0
 try clear c9
 try clear c9b0
 try clear c10
 try clear c10b0
 try clear p10
 try clear q10
 try clear hx10
 try clear c11
 try clear c11b0
 try clear c13
 try clear c13b0
 try clear c14
 try clear hx104_0
 try clear hx105_0
 try clear p1
 try clear p104
 try clear p105
 try clear p2
 try clear q1
 try clear q104
 try clear q105
 obtain ⟨kq, x32_11, rfl, HA, HJ11, HO_3, HB⟩ := hcut
 cases kq with
 | zero => exact absurd HA.out (by simp [cfg_Preds.j2])
 | succ kj11 => (
 have H := HA.out
 clear HA
 simp only [cfg_Preds.j2] at H
 by_cases c15 : x32_11 = true
 {
 subst c15
 have H1 : (cfg_Preds.l1 kj11 x3_2 x14_1 l0 (l0.length : Int) x14_1 (rd_L1 l0 x14_1) ((rd_L1 l0 x14_1).length : Int) (wrap64 (x21_2 + 1))) = some r := by rw [if_pos rfl] at H; exact H
 clear H
 have H := H1
 clear H1
 have H' := Aside0.mk H
 clear H
 go_wp2
 go_roundg kj11
 case measure => have := HK1.out; have := HK2.out; have := HJ11.out; omega
 case rel => exact ⟨(x3_2), (wrap64 (x21_2 + 1)), (by first | rfl | (simp; done) | (simp [*]; done)), H', ⟨by have := HK1.out; have := HK2.out; have := HJ11.out; omega⟩, ⟨by (with_reducible repeat (first | apply Kd.S_alloc | apply Kd.S_drewN | apply Kd.S_drew)); exact HO_3.out⟩, ⟨by repeat (first | (with_reducible first | exact HB.out | apply below_alloc | apply pw_below_drewN | apply below_drew1) | exact HB.out)⟩⟩
 }
 {
 replace c15 := Bool.eq_false_iff.mpr c15
 subst c15
 have H1 : (if 0 ≤ (rd (rd_L1 l0 x14_1) x21_2) then (if (rd (rd_L1 l0 x14_1) x21_2) < (x3_2.length : Int) then (if ((rd_L1 x3_2 (rd (rd_L1 l0 x14_1) x21_2)).length : Int) = 0 then (if (rd_L1 x3_2 (rd (rd_L1 l0 x14_1) x21_2)).length < 17592186044416 then (cfg_Preds.l1 kj11 (x3_2.set ((rd (rd_L1 l0 x14_1) x21_2) : Int).toNat ((rd_L1 x3_2 (rd (rd_L1 l0 x14_1) x21_2)) ++ [x14_1])) x14_1 l0 (l0.length : Int) x14_1 (rd_L1 l0 x14_1) ((rd_L1 l0 x14_1).length : Int) (wrap64 (x21_2 + 1))) else (none)) else (if 0 ≤ (wrap64 (((rd_L1 x3_2 (rd (rd_L1 l0 x14_1) x21_2)).length : Int) - 1)) then (if (wrap64 (((rd_L1 x3_2 (rd (rd_L1 l0 x14_1) x21_2)).length : Int) - 1)) < ((rd_L1 x3_2 (rd (rd_L1 l0 x14_1) x21_2)).length : Int) then (if (rd (rd_L1 x3_2 (rd (rd_L1 l0 x14_1) x21_2)) (wrap64 (((rd_L1 x3_2 (rd (rd_L1 l0 x14_1) x21_2)).length : Int) - 1))) = x14_1 then (cfg_Preds.l1 kj11 x3_2 x14_1 l0 (l0.length : Int) x14_1 (rd_L1 l0 x14_1) ((rd_L1 l0 x14_1).length : Int) (wrap64 (x21_2 + 1))) else (if (rd_L1 x3_2 (rd (rd_L1 l0 x14_1) x21_2)).length < 17592186044416 then (cfg_Preds.l1 kj11 (x3_2.set ((rd (rd_L1 l0 x14_1) x21_2) : Int).toNat ((rd_L1 x3_2 (rd (rd_L1 l0 x14_1) x21_2)) ++ [x14_1])) x14_1 l0 (l0.length : Int) x14_1 (rd_L1 l0 x14_1) ((rd_L1 l0 x14_1).length : Int) (wrap64 (x21_2 + 1))) else (none))) else (none)) else (none))) else (none)) else (none)) = some r := by rw [if_neg (show ¬ (false = true) by decide)] at H; exact H
 clear H
 have H := H1
 clear H1
 by_cases c16 : 0 ≤ (rd (rd_L1 l0 x14_1) x21_2)
 {
 rw [if_pos c16] at H
 have c16b0 : decide (0 ≤ (rd (rd_L1 l0 x14_1) x21_2)) = true := decide_eq_true c16
 clear c16
 by_cases c17 : (rd (rd_L1 l0 x14_1) x21_2) < (x3_2.length : Int)
 {
 rw [if_pos c17] at H
 have c17b0 : decide ((rd (rd_L1 l0 x14_1) x21_2) < (x3_2.length : Int)) = true := decide_eq_true c17
 clear c17
 by_cases c18 : ((rd_L1 x3_2 (rd (rd_L1 l0 x14_1) x21_2)).length : Int) = 0
 {
 rw [if_pos c18] at H
 have c18b0 : (((rd_L1 x3_2 (rd (rd_L1 l0 x14_1) x21_2)).length : Int) == 0) = true := beq_iff_eq.mpr c18
 have c18b1 : (((rd_L1 x3_2 (rd (rd_L1 l0 x14_1) x21_2)).length : Int) != 0) = false := bne_eq_false_iff_eq.mpr c18
 clear c18
 by_cases c19 : (rd_L1 x3_2 (rd (rd_L1 l0 x14_1) x21_2)).length < 17592186044416
 {
 rw [if_pos c19] at H
 have LMc19 := Aside0.mk c19
 clear c19
 obtain ⟨y108, hy108⟩ : ∃ y_ : List Int, y_ = ((rd_L1 x3_2 (rd (rd_L1 l0 x14_1) x21_2)) ++ [x14_1]) := ⟨_, rfl⟩
 replace H : (cfg_Preds.l1 kj11 (x3_2.set ((rd (rd_L1 l0 x14_1) x21_2) : Int).toNat y108) x14_1 l0 (l0.length : Int) x14_1 (rd_L1 l0 x14_1) ((rd_L1 l0 x14_1).length : Int) (wrap64 (x21_2 + 1))) = some r := by first | (rw [hy108]; with_reducible exact H) | (have H2_ := (Option.bind_some _ _).symm.trans H; rw [hy108]; with_reducible exact H2_) | (have H2_ := (Option.bind_some _ _).symm.trans H; with_reducible exact H2_) | with_reducible exact H | (rw [hy108]; exact H) | exact H
 have Ny108 := Aside0.mk hy108
 clear hy108
 obtain ⟨y111, hy111⟩ : ∃ y_ : List (List Int), y_ = (x3_2.set ((rd (rd_L1 l0 x14_1) x21_2) : Int).toNat y108) := ⟨_, rfl⟩
 replace H : (cfg_Preds.l1 kj11 y111 x14_1 l0 (l0.length : Int) x14_1 (rd_L1 l0 x14_1) ((rd_L1 l0 x14_1).length : Int) (wrap64 (x21_2 + 1))) = some r := by first | (rw [hy111]; with_reducible exact H) | (have H2_ := (Option.bind_some _ _).symm.trans H; rw [hy111]; with_reducible exact H2_) | (have H2_ := (Option.bind_some _ _).symm.trans H; with_reducible exact H2_) | with_reducible exact H | (rw [hy111]; exact H) | exact H
 have Ny111 := Aside0.mk hy111
 clear hy111
 have H' := Aside0.mk H
 clear H
 obtain ⟨Ao21, co21, eo21⟩ := Kd.S_slice HO_3.out
 subst eo21
 have p106 : 0 ≤ ((rd (rd_L1 l0 x14_1) x21_2) : Int) := of_decide_eq_true (by first | (with_reducible assumption) | assumption)
 have q106 : (rd (rd_L1 l0 x14_1) x21_2) < (x3_2.length : Int) := of_decide_eq_true (by first | (with_reducible assumption) | assumption)
 obtain ⟨ad106, A106_0, c106_0, e106, hx106_0, hl106_0, hi106_0⟩ := at_L1 (Kd.S_reads' HO_3.out).2.2 (rd (rd_L1 l0 x14_1) x21_2) p106 q106
 cases e106
 obtain ⟨ce106, hce106, hMe106, hcc106⟩ := Kd.S_get HO_3.out [] (rd (rd_L1 l0 x14_1) x21_2) p106 (by first | exact q106 | exact of_decide_eq_true (by first | (with_reducible assumption) | assumption) | (have e_ := (Kd.S_reads' HO_3.out).1; omega))
 obtain ⟨ve106_0, rfl, ge106_0⟩ := hMe106
 have hv106_0 := hcc106 0 _ rfl
 rw [Nat.add_zero, show ((Kd.slice 3 (Kd.int .i64))).sz = 1 from rfl, Nat.mul_one] at hv106_0
 replace hv106_0 := Option.some.inj (hv106_0.symm.trans hx106_0)
 rw [hv106_0] at ge106_0
 have HL106_0 := Aside0.mk (show Kd.R (Kd.int .i64) 3 _ _ _ _ (rd_L1 x3_2 (rd (rd_L1 l0 x14_1) x21_2)) from ge106_0)
 clear hv106_0 ge106_0
 have HX106_0 := Aside0.mk hx106_0
 clear hcc106 hce106
 have HR106_0 := Aside0.mk hi106_0
 have HC106_0 := Aside0.mk hl106_0
 clear hi106_0 hl106_0
 replace p106 := eq_true p106
 replace q106 := eq_true q106
 have p107 : 0 ≤ ((rd (rd_L1 l0 x14_1) x21_2) : Int) := of_decide_eq_true (by first | (with_reducible assumption) | assumption)
 have q107 : (rd (rd_L1 l0 x14_1) x21_2) < (x3_2.length : Int) := of_decide_eq_true (by first | (with_reducible assumption) | assumption)
 obtain ⟨ad107, A107_0, c107_0, e107, hx107_0, hl107_0, hi107_0⟩ := at_L1 (Kd.S_reads' HO_3.out).2.2 (rd (rd_L1 l0 x14_1) x21_2) p107 q107
 obtain rfl : ad106 = ad107 := (by injection e107)
 obtain ⟨ce107, hce107, hMe107, hcc107⟩ := Kd.S_get HO_3.out [] (rd (rd_L1 l0 x14_1) x21_2) p107 (by first | exact q107 | exact of_decide_eq_true (by first | (with_reducible assumption) | assumption) | (have e_ := (Kd.S_reads' HO_3.out).1; omega))
 obtain ⟨ve107_0, rfl, ge107_0⟩ := hMe107
 have hv107_0 := hcc107 0 _ rfl
 rw [Nat.add_zero, show ((Kd.slice 3 (Kd.int .i64))).sz = 1 from rfl, Nat.mul_one] at hv107_0
 replace hv107_0 := Option.some.inj (hv107_0.symm.trans hx107_0)
 rw [hv107_0] at ge107_0
 have HL107_0 := Aside0.mk (show Kd.R (Kd.int .i64) 3 _ _ _ _ (rd_L1 x3_2 (rd (rd_L1 l0 x14_1) x21_2)) from ge107_0)
 clear hv107_0 ge107_0
 have HX107_0 := Aside0.mk hx107_0
 clear hcc107 hce107
 have HR107_0 := Aside0.mk hi107_0
 have HC107_0 := Aside0.mk hl107_0
 clear hi107_0 hl107_0
 replace p107 := eq_true p107
 replace q107 := eq_true q107
 have ea_ := Option.some.inj (hx106_0.symm.trans hx107_0)
 injection ea_ with ea_ en_ ec_
 subst ea_
 subst ec_
 clear en_
 obtain ⟨go22, co22, eo22, gb22, gl22, cl22, HG22⟩ := Kd.S_form HO_3.out (by have h_ : ((rd (rd_L1 l0 x14_1) x21_2) : Int) < ((x3_2.length : Int) : Int) := of_decide_eq_true (by first | (with_reducible assumption) | assumption); have h2_ : 0 ≤ ((rd (rd_L1 l0 x14_1) x21_2) : Int) := (of_decide_eq_true (by first | (with_reducible assumption) | assumption)); omega)
 (first | cases eo22 | (injection eo22 with ea_ en_ ec_; (first | subst ea_ | (injection ea_ with ea_; subst ea_)); subst ec_; clear en_))
 have GB22 := Aside0.mk gb22
 have GG22 := Aside0.mk HG22
 clear gb22 gl22 HG22
 (first | simp only [add_plain] at hx106_0 | skip)
 (first | simp only [add_plain] at hx107_0 | skip)
 obtain ⟨oki22, ce22, hcl22, hM22, hcc22, _, _, hH22⟩ := Kd.S_elem HO_3.out [] ((rd (rd_L1 l0 x14_1) x21_2) : Int) (of_decide_eq_true (by first | (with_reducible assumption) | assumption)) (by have h_ : ((rd (rd_L1 l0 x14_1) x21_2) : Int) < ((x3_2.length : Int) : Int) := of_decide_eq_true (by first | (with_reducible assumption) | assumption); first | exact h_ | (have e_ := (Kd.S_reads' HO_3.out).1; omega) | simpa using h_)
 obtain ⟨ve22_0, rfl, ge22_0⟩ := hM22
 have hv22 := hcc22 0 _ rfl
 have hX22 := HX107_0.out
 (try simp only [add_plain] at hX22)
 (try simp only [Nat.add_zero] at hv22)
 (try rw [show ((Kd.slice 3 (Kd.int .i64))).sz = 1 from rfl, Nat.mul_one] at hv22)
 replace hv22 := Option.some.inj (hv22.symm.trans hX22)
 subst hv22
 clear hX22 hcc22 hcl22
 have UU22 := Aside0.mk (show Kd.R (Kd.int .i64) 3 _ w.heap.size oki22 (.slice A106_0 (rd_L1 x3_2 (rd (rd_L1 l0 x14_1) x21_2)).length c106_0) (rd_L1 x3_2 (rd (rd_L1 l0 x14_1) x21_2)) from ge22_0)
 have HH22 := Aside0.mk hH22
 have HN22 := Aside0.mk (Kd.S_reads' HO_3.out).1
 clear hH22 ge22_0
 go_wp2_with (first | ((with_reducible refine gate_builtin (b := .append) (xs := #[.tmp 57, .tmp 59]) rfl ?_); (try (refine gate_guard (by rfl) ?_; dsimp only)); at_builtin; refine Kd.R_append (Kd.int .i64) (w0 := w) w.heap.size rfl (.tmp 57) (.tmp 59) 33 3 (.int .i64 0) 8 rfl Try.underlying33 info3 rfl (by decide) (by omega) (.slice A106_0 (rd_L1 x3_2 (rd (rd_L1 l0 x14_1) x21_2)).length c106_0) (rd_L1 x3_2 (rd (rd_L1 l0 x14_1) x21_2)) x14_1 [.int .i64 x14_1] (fun k_ => oki22 k_ ∨ ((fun _ => True)) k_ ∧ wc.heap.size ≤ k_) (fun _ => False) rfl rfl ?aP (fun _ hk => hk.elim) ?aF ?aO ?aB ?aS ?aL ?_; (case aP => exact rfl); (case aB => exact (by repeat (first | (with_reducible first | exact HB.out | apply below_alloc | apply pw_below_drewN | apply below_drew1) | exact HB.out))); (case aF => exact (fun k_ hk => .inr ⟨trivial, hk⟩)); (case aO => exact (by (with_reducible repeat (first | apply Kd.R_alloc | apply Kd.R_drewN | apply Kd.R_drew)); exact Kd.R_mono UU22.out (fun _ hk => .inl hk))); (case aS => exact (below_size (by repeat (first | (with_reducible first | exact HB.out | apply below_alloc | apply pw_below_drewN | apply below_drew1) | exact HB.out)))); (case aL => have := LMc19.out; omega); intro v109 w23 ho hb hg hat; rw [← Ny108.out] at ho; have n0_ := Aside0.mk (hb); have n1_ := Aside0.mk (Kd.H_grown (Kd.H_widen (by repeat (first | exact HH22.out | refine Kd.H_alloc ?_ _ | refine Kd.H_drewN ?_ _ | refine Kd.H_drew ?_))) hg (fun k_ e_ => .inl (UU22.out.1 k_ e_))); have n2_ := Aside0.mk (ho); clear HB; clear HH22; clear HO_3; clear UU22; clear HL106_0; clear HL107_0; have HB := n0_; have HH22 := n1_; have HO110 := n2_; clear n0_ n1_ n2_; clear ho hb hg hat; have p20 : 0 ≤ ((rd (rd_L1 l0 x14_1) x21_2) : Int) := of_decide_eq_true (by first | (with_reducible assumption) | assumption); have q20 : ((rd (rd_L1 l0 x14_1) x21_2) : Int) < ((x3_2.length : Int) : Int) := of_decide_eq_true (by first | (with_reducible assumption) | assumption); replace p20 := eq_true p20; replace q20 := eq_true q20; obtain ⟨Ao26, co26, eo26⟩ := Kd.R_slice HO110.out; subst eo26; obtain ⟨_, _, hraw24, _, _, hcc24, _⟩ := Kd.H_raw HH22.out (of_decide_eq_true (by first | (with_reducible assumption) | assumption)) (by have h_ : ((rd (rd_L1 l0 x14_1) x21_2) : Int) < ((x3_2.length : Int) : Int) := of_decide_eq_true (by first | (with_reducible assumption) | assumption); first | exact h_ | (have e_ := (HN22.out); omega) | simpa using h_); obtain ⟨_, hfr24⟩ := Kd.H_at HH22.out (of_decide_eq_true (by first | (with_reducible assumption) | assumption)) (by have h_ : ((rd (rd_L1 l0 x14_1) x21_2) : Int) < ((x3_2.length : Int) : Int) := of_decide_eq_true (by first | (with_reducible assumption) | assumption); first | exact h_ | (have e_ := (HN22.out); omega) | simpa using h_); have hx24_0 := hcc24 0 _ rfl; have hf24_0 := hfr24 0; (try simp only [Nat.add_zero] at hx24_0 hf24_0); (try rw [show ((Kd.slice 3 (Kd.int .i64))).sz = 1 from rfl, Nat.mul_one] at hx24_0); (try rw [show ((Kd.slice 3 (Kd.int .i64))).sz = 1 from rfl, Nat.mul_one] at hf24_0); have HP24 := Kd.S_seg0 HH22.out (of_decide_eq_true (by first | (with_reducible assumption) | assumption)) (by have h_ : ((rd (rd_L1 l0 x14_1) x21_2) : Int) < ((x3_2.length : Int) : Int) := of_decide_eq_true (by first | (with_reducible assumption) | assumption); first | exact h_ | (have e_ := (HN22.out); omega) | simpa using h_) (seg := [.slice Ao26 y108.length co26]) (j := 0) (show 1 ≤ 1 from by decide) (x' := y108) (Kd.M_row HO110.out) (fun _ hk => hk); (try simp only [show ((Kd.slice 3 (Kd.int .i64))).sz = 1 from rfl, Nat.mul_one, Nat.add_zero] at HP24); clear hcc24 hfr24) | ((with_reducible refine gate_store (t := 33) (p := 61) rfl ?_); refine store_event (t := 33) (p := 61) (v := ?vo_w25) (w1 := (w23.setCell ⟨go22, ((rd (rd_L1 l0 x14_1) x21_2) : Int).toNat, none⟩ (.slice Ao26 y108.length co26))) ?hg ?ho ?hn ?hr ?_; (case ho => rfl); (case hg => rfl); (case hn => rfl); (case hr => first | (go_simp; done) | (go_simp; rfl)); intro w25 hw; have hg : w23.grownBy w25 (some go22) := (by rw [hw]; exact HP24.2); have hp_ : Kd.S (Kd.slice 3 (Kd.int .i64)) 33 w25 w.heap.size (fun _ => True) (.slice (some ⟨go22, 0, none⟩) x3_2.length co21) y111 := (by rw [hw, Ny111.out]; exact HP24.1); clear HP24; have n0_ := Aside0.mk ((by rw [hw]; exact below_set HB.out GB22.out : Below w.heap.size w w25)); have n1_ := Aside0.mk (hp_); clear HB; clear HO110; clear HH22; have HB := n0_; have HO_3 := n1_; clear n0_ n1_; clear hg hw hp_ hraw24))
 go_roundg kj11
 case measure => have := HK1.out; have := HK2.out; have := HJ11.out; omega
 case rel => exact ⟨(y111), (wrap64 (x21_2 + 1)), (by first | rfl | (simp; done) | (simp [*]; done)), H', ⟨by have := HK1.out; have := HK2.out; have := HJ11.out; omega⟩, ⟨by (with_reducible repeat (first | apply Kd.S_alloc | apply Kd.S_drewN | apply Kd.S_drew)); exact HO_3.out⟩, ⟨by repeat (first | (with_reducible first | exact HB.out | apply below_alloc | apply pw_below_drewN | apply below_drew1) | exact HB.out)⟩⟩
 }
 {
 rw [if_neg c19] at H
 exact absurd H (by simp)
 }
 }
 {
 rw [if_neg c18] at H
 have c18b0 : (((rd_L1 x3_2 (rd (rd_L1 l0 x14_1) x21_2)).length : Int) == 0) = false := beq_eq_false_iff_ne.mpr c18
 have c18b1 : (((rd_L1 x3_2 (rd (rd_L1 l0 x14_1) x21_2)).length : Int) != 0) = true := bne_iff_ne.mpr c18
 have c18b2 : ¬ ((rd_L1 x3_2 (rd (rd_L1 l0 x14_1) x21_2)) = []) := fun h_ => c18 (by rw [h_]; rfl)
 obtain ⟨ji27, hji27⟩ : ∃ j_ : Int, (wrap64 (((rd_L1 x3_2 (rd (rd_L1 l0 x14_1) x21_2)).length : Int) - 1)) = j_ := ⟨_, rfl⟩
 replace H : (if 0 ≤ (ji27) then (if (ji27) < ((rd_L1 x3_2 (rd (rd_L1 l0 x14_1) x21_2)).length : Int) then (if (rd (rd_L1 x3_2 (rd (rd_L1 l0 x14_1) x21_2)) (ji27)) = x14_1 then (cfg_Preds.l1 kj11 x3_2 x14_1 l0 (l0.length : Int) x14_1 (rd_L1 l0 x14_1) ((rd_L1 l0 x14_1).length : Int) (wrap64 (x21_2 + 1))) else (if (rd_L1 x3_2 (rd (rd_L1 l0 x14_1) x21_2)).length < 17592186044416 then (cfg_Preds.l1 kj11 (x3_2.set ((rd (rd_L1 l0 x14_1) x21_2) : Int).toNat ((rd_L1 x3_2 (rd (rd_L1 l0 x14_1) x21_2)) ++ [x14_1])) x14_1 l0 (l0.length : Int) x14_1 (rd_L1 l0 x14_1) ((rd_L1 l0 x14_1).length : Int) (wrap64 (x21_2 + 1))) else (none))) else (none)) else (none)) = some r := by first | (rw [hji27] at H; exact H) | (simp only [hji27] at H ⊢; exact H)
 have hji27w : (IntKind.i64.wrap (((rd_L1 x3_2 (rd (rd_L1 l0 x14_1) x21_2)).length : Int) - 1)) = ji27 := (i64_w _).trans hji27
 by_cases c28 : 0 ≤ (ji27)
 {
 rw [if_pos c28] at H
 have c28b0 : decide (0 ≤ (ji27)) = true := decide_eq_true c28
 clear c28
 by_cases c29 : (ji27) < ((rd_L1 x3_2 (rd (rd_L1 l0 x14_1) x21_2)).length : Int)
 {
 rw [if_pos c29] at H
 have c29b0 : decide ((ji27) < ((rd_L1 x3_2 (rd (rd_L1 l0 x14_1) x21_2)).length : Int)) = true := decide_eq_true c29
 clear c29
 by_cases c30 : (rd (rd_L1 x3_2 (rd (rd_L1 l0 x14_1) x21_2)) (ji27)) = x14_1
 {
 rw [if_pos c30] at H
 have c30b0 : ((rd (rd_L1 x3_2 (rd (rd_L1 l0 x14_1) x21_2)) (ji27)) == x14_1) = true := beq_iff_eq.mpr c30
 have c30b1 : ((rd (rd_L1 x3_2 (rd (rd_L1 l0 x14_1) x21_2)) (ji27)) != x14_1) = false := bne_eq_false_iff_eq.mpr c30
 clear c30
 have H' := Aside0.mk H
 clear H
 obtain ⟨Ao31, co31, eo31⟩ := Kd.S_slice HO_3.out
 subst eo31
 have p106 : 0 ≤ ((rd (rd_L1 l0 x14_1) x21_2) : Int) := of_decide_eq_true (by first | (with_reducible assumption) | assumption)
 have q106 : (rd (rd_L1 l0 x14_1) x21_2) < (x3_2.length : Int) := of_decide_eq_true (by first | (with_reducible assumption) | assumption)
 obtain ⟨ad106, A106_0, c106_0, e106, hx106_0, hl106_0, hi106_0⟩ := at_L1 (Kd.S_reads' HO_3.out).2.2 (rd (rd_L1 l0 x14_1) x21_2) p106 q106
 cases e106
 obtain ⟨ce106, hce106, hMe106, hcc106⟩ := Kd.S_get HO_3.out [] (rd (rd_L1 l0 x14_1) x21_2) p106 (by first | exact q106 | exact of_decide_eq_true (by first | (with_reducible assumption) | assumption) | (have e_ := (Kd.S_reads' HO_3.out).1; omega))
 obtain ⟨ve106_0, rfl, ge106_0⟩ := hMe106
 have hv106_0 := hcc106 0 _ rfl
 rw [Nat.add_zero, show ((Kd.slice 3 (Kd.int .i64))).sz = 1 from rfl, Nat.mul_one] at hv106_0
 replace hv106_0 := Option.some.inj (hv106_0.symm.trans hx106_0)
 rw [hv106_0] at ge106_0
 have HL106_0 := Aside0.mk (show Kd.R (Kd.int .i64) 3 _ _ _ _ (rd_L1 x3_2 (rd (rd_L1 l0 x14_1) x21_2)) from ge106_0)
 clear hv106_0 ge106_0
 have HX106_0 := Aside0.mk hx106_0
 clear hcc106 hce106
 have HR106_0 := Aside0.mk hi106_0
 have HC106_0 := Aside0.mk hl106_0
 clear hi106_0 hl106_0
 replace p106 := eq_true p106
 replace q106 := eq_true q106
 have p112 : 0 ≤ ((rd (rd_L1 l0 x14_1) x21_2) : Int) := of_decide_eq_true (by first | (with_reducible assumption) | assumption)
 have q112 : (rd (rd_L1 l0 x14_1) x21_2) < (x3_2.length : Int) := of_decide_eq_true (by first | (with_reducible assumption) | assumption)
 obtain ⟨ad112, A112_0, c112_0, e112, hx112_0, hl112_0, hi112_0⟩ := at_L1 (Kd.S_reads' HO_3.out).2.2 (rd (rd_L1 l0 x14_1) x21_2) p112 q112
 obtain rfl : ad106 = ad112 := (by injection e112)
 obtain ⟨ce112, hce112, hMe112, hcc112⟩ := Kd.S_get HO_3.out [] (rd (rd_L1 l0 x14_1) x21_2) p112 (by first | exact q112 | exact of_decide_eq_true (by first | (with_reducible assumption) | assumption) | (have e_ := (Kd.S_reads' HO_3.out).1; omega))
 obtain ⟨ve112_0, rfl, ge112_0⟩ := hMe112
 have hv112_0 := hcc112 0 _ rfl
 rw [Nat.add_zero, show ((Kd.slice 3 (Kd.int .i64))).sz = 1 from rfl, Nat.mul_one] at hv112_0
 replace hv112_0 := Option.some.inj (hv112_0.symm.trans hx112_0)
 rw [hv112_0] at ge112_0
 have HL112_0 := Aside0.mk (show Kd.R (Kd.int .i64) 3 _ _ _ _ (rd_L1 x3_2 (rd (rd_L1 l0 x14_1) x21_2)) from ge112_0)
 clear hv112_0 ge112_0
 have HX112_0 := Aside0.mk hx112_0
 clear hcc112 hce112
 have HR112_0 := Aside0.mk hi112_0
 have HC112_0 := Aside0.mk hl112_0
 clear hi112_0 hl112_0
 replace p112 := eq_true p112
 replace q112 := eq_true q112
 have ea_ := Option.some.inj (hx106_0.symm.trans hx112_0)
 injection ea_ with ea_ en_ ec_
 subst ea_
 subst ec_
 clear en_
 have p113 : 0 ≤ ((ji27) : Int) := of_decide_eq_true (by first | (with_reducible assumption) | assumption)
 have q113 : (ji27) < ((rd_L1 x3_2 (rd (rd_L1 l0 x14_1) x21_2)).length : Int) := of_decide_eq_true (by first | (with_reducible assumption) | assumption)
 obtain ⟨ad113, e113, hx113_0⟩ := Kd.at_int (by repeat (first | (with_reducible exact HR112_0.out) | (with_reducible refine Kd.C_alloc ?_ _) | (with_reducible refine Kd.C_drewN ?_ _) | (with_reducible refine Kd.C_drew ?_) | exact HR112_0.out)) (ji27) p113 q113
 cases e113
 replace p113 := eq_true p113
 replace q113 := eq_true q113
 go_wp2
 go_roundg kj11
 case measure => have := HK1.out; have := HK2.out; have := HJ11.out; omega
 case rel => exact ⟨(x3_2), (wrap64 (x21_2 + 1)), (by first | rfl | (simp; done) | (simp [*]; done)), H', ⟨by have := HK1.out; have := HK2.out; have := HJ11.out; omega⟩, ⟨by (with_reducible repeat (first | apply Kd.S_alloc | apply Kd.S_drewN | apply Kd.S_drew)); exact HO_3.out⟩, ⟨by repeat (first | (with_reducible first | exact HB.out | apply below_alloc | apply pw_below_drewN | apply below_drew1) | exact HB.out)⟩⟩
 }
 {
 rw [if_neg c30] at H
 have c30b0 : ((rd (rd_L1 x3_2 (rd (rd_L1 l0 x14_1) x21_2)) (ji27)) == x14_1) = false := beq_eq_false_iff_ne.mpr c30
 have c30b1 : ((rd (rd_L1 x3_2 (rd (rd_L1 l0 x14_1) x21_2)) (ji27)) != x14_1) = true := bne_iff_ne.mpr c30
 by_cases c32 : (rd_L1 x3_2 (rd (rd_L1 l0 x14_1) x21_2)).length < 17592186044416
 {
 rw [if_pos c32] at H
 have LMc32 := Aside0.mk c32
 clear c32
 obtain ⟨y115, hy115⟩ : ∃ y_ : List Int, y_ = ((rd_L1 x3_2 (rd (rd_L1 l0 x14_1) x21_2)) ++ [x14_1]) := ⟨_, rfl⟩
 replace H : (cfg_Preds.l1 kj11 (x3_2.set ((rd (rd_L1 l0 x14_1) x21_2) : Int).toNat y115) x14_1 l0 (l0.length : Int) x14_1 (rd_L1 l0 x14_1) ((rd_L1 l0 x14_1).length : Int) (wrap64 (x21_2 + 1))) = some r := by first | (rw [hy115]; with_reducible exact H) | (have H2_ := (Option.bind_some _ _).symm.trans H; rw [hy115]; with_reducible exact H2_) | (have H2_ := (Option.bind_some _ _).symm.trans H; with_reducible exact H2_) | with_reducible exact H | (rw [hy115]; exact H) | exact H
 have Ny115 := Aside0.mk hy115
 clear hy115
 obtain ⟨y118, hy118⟩ : ∃ y_ : List (List Int), y_ = (x3_2.set ((rd (rd_L1 l0 x14_1) x21_2) : Int).toNat y115) := ⟨_, rfl⟩
 replace H : (cfg_Preds.l1 kj11 y118 x14_1 l0 (l0.length : Int) x14_1 (rd_L1 l0 x14_1) ((rd_L1 l0 x14_1).length : Int) (wrap64 (x21_2 + 1))) = some r := by first | (rw [hy118]; with_reducible exact H) | (have H2_ := (Option.bind_some _ _).symm.trans H; rw [hy118]; with_reducible exact H2_) | (have H2_ := (Option.bind_some _ _).symm.trans H; with_reducible exact H2_) | with_reducible exact H | (rw [hy118]; exact H) | exact H
 have Ny118 := Aside0.mk hy118
 clear hy118
 have H' := Aside0.mk H
 clear H
 obtain ⟨Ao34, co34, eo34⟩ := Kd.S_slice HO_3.out
 subst eo34
 have p106 : 0 ≤ ((rd (rd_L1 l0 x14_1) x21_2) : Int) := of_decide_eq_true (by first | (with_reducible assumption) | assumption)
 have q106 : (rd (rd_L1 l0 x14_1) x21_2) < (x3_2.length : Int) := of_decide_eq_true (by first | (with_reducible assumption) | assumption)
 obtain ⟨ad106, A106_0, c106_0, e106, hx106_0, hl106_0, hi106_0⟩ := at_L1 (Kd.S_reads' HO_3.out).2.2 (rd (rd_L1 l0 x14_1) x21_2) p106 q106
 cases e106
 obtain ⟨ce106, hce106, hMe106, hcc106⟩ := Kd.S_get HO_3.out [] (rd (rd_L1 l0 x14_1) x21_2) p106 (by first | exact q106 | exact of_decide_eq_true (by first | (with_reducible assumption) | assumption) | (have e_ := (Kd.S_reads' HO_3.out).1; omega))
 obtain ⟨ve106_0, rfl, ge106_0⟩ := hMe106
 have hv106_0 := hcc106 0 _ rfl
 rw [Nat.add_zero, show ((Kd.slice 3 (Kd.int .i64))).sz = 1 from rfl, Nat.mul_one] at hv106_0
 replace hv106_0 := Option.some.inj (hv106_0.symm.trans hx106_0)
 rw [hv106_0] at ge106_0
 have HL106_0 := Aside0.mk (show Kd.R (Kd.int .i64) 3 _ _ _ _ (rd_L1 x3_2 (rd (rd_L1 l0 x14_1) x21_2)) from ge106_0)
 clear hv106_0 ge106_0
 have HX106_0 := Aside0.mk hx106_0
 clear hcc106 hce106
 have HR106_0 := Aside0.mk hi106_0
 have HC106_0 := Aside0.mk hl106_0
 clear hi106_0 hl106_0
 replace p106 := eq_true p106
 replace q106 := eq_true q106
 have p112 : 0 ≤ ((rd (rd_L1 l0 x14_1) x21_2) : Int) := of_decide_eq_true (by first | (with_reducible assumption) | assumption)
 have q112 : (rd (rd_L1 l0 x14_1) x21_2) < (x3_2.length : Int) := of_decide_eq_true (by first | (with_reducible assumption) | assumption)
 obtain ⟨ad112, A112_0, c112_0, e112, hx112_0, hl112_0, hi112_0⟩ := at_L1 (Kd.S_reads' HO_3.out).2.2 (rd (rd_L1 l0 x14_1) x21_2) p112 q112
 obtain rfl : ad106 = ad112 := (by injection e112)
 obtain ⟨ce112, hce112, hMe112, hcc112⟩ := Kd.S_get HO_3.out [] (rd (rd_L1 l0 x14_1) x21_2) p112 (by first | exact q112 | exact of_decide_eq_true (by first | (with_reducible assumption) | assumption) | (have e_ := (Kd.S_reads' HO_3.out).1; omega))
 obtain ⟨ve112_0, rfl, ge112_0⟩ := hMe112
 have hv112_0 := hcc112 0 _ rfl
 rw [Nat.add_zero, show ((Kd.slice 3 (Kd.int .i64))).sz = 1 from rfl, Nat.mul_one] at hv112_0
 replace hv112_0 := Option.some.inj (hv112_0.symm.trans hx112_0)
 rw [hv112_0] at ge112_0
 have HL112_0 := Aside0.mk (show Kd.R (Kd.int .i64) 3 _ _ _ _ (rd_L1 x3_2 (rd (rd_L1 l0 x14_1) x21_2)) from ge112_0)
 clear hv112_0 ge112_0
 have HX112_0 := Aside0.mk hx112_0
 clear hcc112 hce112
 have HR112_0 := Aside0.mk hi112_0
 have HC112_0 := Aside0.mk hl112_0
 clear hi112_0 hl112_0
 replace p112 := eq_true p112
 replace q112 := eq_true q112
 have ea_ := Option.some.inj (hx106_0.symm.trans hx112_0)
 injection ea_ with ea_ en_ ec_
 subst ea_
 subst ec_
 clear en_
 have p113 : 0 ≤ ((ji27) : Int) := of_decide_eq_true (by first | (with_reducible assumption) | assumption)
 have q113 : (ji27) < ((rd_L1 x3_2 (rd (rd_L1 l0 x14_1) x21_2)).length : Int) := of_decide_eq_true (by first | (with_reducible assumption) | assumption)
 obtain ⟨ad113, e113, hx113_0⟩ := Kd.at_int (by repeat (first | (with_reducible exact HR112_0.out) | (with_reducible refine Kd.C_alloc ?_ _) | (with_reducible refine Kd.C_drewN ?_ _) | (with_reducible refine Kd.C_drew ?_) | exact HR112_0.out)) (ji27) p113 q113
 cases e113
 replace p113 := eq_true p113
 replace q113 := eq_true q113
 have p114 : 0 ≤ ((rd (rd_L1 l0 x14_1) x21_2) : Int) := of_decide_eq_true (by first | (with_reducible assumption) | assumption)
 have q114 : (rd (rd_L1 l0 x14_1) x21_2) < (x3_2.length : Int) := of_decide_eq_true (by first | (with_reducible assumption) | assumption)
 obtain ⟨ad114, A114_0, c114_0, e114, hx114_0, hl114_0, hi114_0⟩ := at_L1 (Kd.S_reads' HO_3.out).2.2 (rd (rd_L1 l0 x14_1) x21_2) p114 q114
 obtain rfl : ad106 = ad114 := (by injection e114)
 obtain ⟨ce114, hce114, hMe114, hcc114⟩ := Kd.S_get HO_3.out [] (rd (rd_L1 l0 x14_1) x21_2) p114 (by first | exact q114 | exact of_decide_eq_true (by first | (with_reducible assumption) | assumption) | (have e_ := (Kd.S_reads' HO_3.out).1; omega))
 obtain ⟨ve114_0, rfl, ge114_0⟩ := hMe114
 have hv114_0 := hcc114 0 _ rfl
 rw [Nat.add_zero, show ((Kd.slice 3 (Kd.int .i64))).sz = 1 from rfl, Nat.mul_one] at hv114_0
 replace hv114_0 := Option.some.inj (hv114_0.symm.trans hx114_0)
 rw [hv114_0] at ge114_0
 have HL114_0 := Aside0.mk (show Kd.R (Kd.int .i64) 3 _ _ _ _ (rd_L1 x3_2 (rd (rd_L1 l0 x14_1) x21_2)) from ge114_0)
 clear hv114_0 ge114_0
 have HX114_0 := Aside0.mk hx114_0
 clear hcc114 hce114
 have HR114_0 := Aside0.mk hi114_0
 have HC114_0 := Aside0.mk hl114_0
 clear hi114_0 hl114_0
 replace p114 := eq_true p114
 replace q114 := eq_true q114
 have ea_ := Option.some.inj (hx106_0.symm.trans hx114_0)
 injection ea_ with ea_ en_ ec_
 subst ea_
 subst ec_
 clear en_
 obtain ⟨go35, co35, eo35, gb35, gl35, cl35, HG35⟩ := Kd.S_form HO_3.out (by have h_ : ((rd (rd_L1 l0 x14_1) x21_2) : Int) < ((x3_2.length : Int) : Int) := of_decide_eq_true (by first | (with_reducible assumption) | assumption); have h2_ : 0 ≤ ((rd (rd_L1 l0 x14_1) x21_2) : Int) := (of_decide_eq_true (by first | (with_reducible assumption) | assumption)); omega)
 (first | cases eo35 | (injection eo35 with ea_ en_ ec_; (first | subst ea_ | (injection ea_ with ea_; subst ea_)); subst ec_; clear en_))
 have GB35 := Aside0.mk gb35
 have GG35 := Aside0.mk HG35
 clear gb35 gl35 HG35
 (first | simp only [add_plain] at hx106_0 | skip)
 (first | simp only [add_plain] at hx112_0 | skip)
 (first | simp only [add_plain] at hx114_0 | skip)
 obtain ⟨oki35, ce35, hcl35, hM35, hcc35, _, _, hH35⟩ := Kd.S_elem HO_3.out [] ((rd (rd_L1 l0 x14_1) x21_2) : Int) (of_decide_eq_true (by first | (with_reducible assumption) | assumption)) (by have h_ : ((rd (rd_L1 l0 x14_1) x21_2) : Int) < ((x3_2.length : Int) : Int) := of_decide_eq_true (by first | (with_reducible assumption) | assumption); first | exact h_ | (have e_ := (Kd.S_reads' HO_3.out).1; omega) | simpa using h_)
 obtain ⟨ve35_0, rfl, ge35_0⟩ := hM35
 have hv35 := hcc35 0 _ rfl
 have hX35 := HX114_0.out
 (try simp only [add_plain] at hX35)
 (try simp only [Nat.add_zero] at hv35)
 (try rw [show ((Kd.slice 3 (Kd.int .i64))).sz = 1 from rfl, Nat.mul_one] at hv35)
 replace hv35 := Option.some.inj (hv35.symm.trans hX35)
 subst hv35
 clear hX35 hcc35 hcl35
 have UU35 := Aside0.mk (show Kd.R (Kd.int .i64) 3 _ w.heap.size oki35 (.slice (some ad113) (rd_L1 x3_2 (rd (rd_L1 l0 x14_1) x21_2)).length c106_0) (rd_L1 x3_2 (rd (rd_L1 l0 x14_1) x21_2)) from ge35_0)
 have HH35 := Aside0.mk hH35
 have HN35 := Aside0.mk (Kd.S_reads' HO_3.out).1
 clear hH35 ge35_0
 go_wp2_with (first | ((with_reducible refine gate_builtin (b := .append) (xs := #[.tmp 57, .tmp 59]) rfl ?_); (try (refine gate_guard (by rfl) ?_; dsimp only)); at_builtin; refine Kd.R_append (Kd.int .i64) (w0 := w) w.heap.size rfl (.tmp 57) (.tmp 59) 33 3 (.int .i64 0) 8 rfl Try.underlying33 info3 rfl (by decide) (by omega) (.slice (some ad113) (rd_L1 x3_2 (rd (rd_L1 l0 x14_1) x21_2)).length c106_0) (rd_L1 x3_2 (rd (rd_L1 l0 x14_1) x21_2)) x14_1 [.int .i64 x14_1] (fun k_ => oki35 k_ ∨ ((fun _ => True)) k_ ∧ wc.heap.size ≤ k_) (fun _ => False) rfl rfl ?aP (fun _ hk => hk.elim) ?aF ?aO ?aB ?aS ?aL ?_; (case aP => exact rfl); (case aB => exact (by repeat (first | (with_reducible first | exact HB.out | apply below_alloc | apply pw_below_drewN | apply below_drew1) | exact HB.out))); (case aF => exact (fun k_ hk => .inr ⟨trivial, hk⟩)); (case aO => exact (by (with_reducible repeat (first | apply Kd.R_alloc | apply Kd.R_drewN | apply Kd.R_drew)); exact Kd.R_mono UU35.out (fun _ hk => .inl hk))); (case aS => exact (below_size (by repeat (first | (with_reducible first | exact HB.out | apply below_alloc | apply pw_below_drewN | apply below_drew1) | exact HB.out)))); (case aL => have := LMc32.out; omega); intro v116 w36 ho hb hg hat; rw [← Ny115.out] at ho; have n0_ := Aside0.mk (hb); have n1_ := Aside0.mk (Kd.H_grown (Kd.H_widen (by repeat (first | exact HH35.out | refine Kd.H_alloc ?_ _ | refine Kd.H_drewN ?_ _ | refine Kd.H_drew ?_))) hg (fun k_ e_ => .inl (UU35.out.1 k_ e_))); have n2_ := Aside0.mk (ho); clear HB; clear HH35; clear HO_3; clear UU35; clear HL106_0; clear HL112_0; clear HL114_0; have HB := n0_; have HH35 := n1_; have HO117 := n2_; clear n0_ n1_ n2_; clear ho hb hg hat; have p33 : 0 ≤ ((rd (rd_L1 l0 x14_1) x21_2) : Int) := of_decide_eq_true (by first | (with_reducible assumption) | assumption); have q33 : ((rd (rd_L1 l0 x14_1) x21_2) : Int) < ((x3_2.length : Int) : Int) := of_decide_eq_true (by first | (with_reducible assumption) | assumption); replace p33 := eq_true p33; replace q33 := eq_true q33; obtain ⟨Ao39, co39, eo39⟩ := Kd.R_slice HO117.out; subst eo39; obtain ⟨_, _, hraw37, _, _, hcc37, _⟩ := Kd.H_raw HH35.out (of_decide_eq_true (by first | (with_reducible assumption) | assumption)) (by have h_ : ((rd (rd_L1 l0 x14_1) x21_2) : Int) < ((x3_2.length : Int) : Int) := of_decide_eq_true (by first | (with_reducible assumption) | assumption); first | exact h_ | (have e_ := (HN35.out); omega) | simpa using h_); obtain ⟨_, hfr37⟩ := Kd.H_at HH35.out (of_decide_eq_true (by first | (with_reducible assumption) | assumption)) (by have h_ : ((rd (rd_L1 l0 x14_1) x21_2) : Int) < ((x3_2.length : Int) : Int) := of_decide_eq_true (by first | (with_reducible assumption) | assumption); first | exact h_ | (have e_ := (HN35.out); omega) | simpa using h_); have hx37_0 := hcc37 0 _ rfl; have hf37_0 := hfr37 0; (try simp only [Nat.add_zero] at hx37_0 hf37_0); (try rw [show ((Kd.slice 3 (Kd.int .i64))).sz = 1 from rfl, Nat.mul_one] at hx37_0); (try rw [show ((Kd.slice 3 (Kd.int .i64))).sz = 1 from rfl, Nat.mul_one] at hf37_0); have HP37 := Kd.S_seg0 HH35.out (of_decide_eq_true (by first | (with_reducible assumption) | assumption)) (by have h_ : ((rd (rd_L1 l0 x14_1) x21_2) : Int) < ((x3_2.length : Int) : Int) := of_decide_eq_true (by first | (with_reducible assumption) | assumption); first | exact h_ | (have e_ := (HN35.out); omega) | simpa using h_) (seg := [.slice Ao39 y115.length co39]) (j := 0) (show 1 ≤ 1 from by decide) (x' := y115) (Kd.M_row HO117.out) (fun _ hk => hk); (try simp only [show ((Kd.slice 3 (Kd.int .i64))).sz = 1 from rfl, Nat.mul_one, Nat.add_zero] at HP37); clear hcc37 hfr37) | ((with_reducible refine gate_store (t := 33) (p := 61) rfl ?_); refine store_event (t := 33) (p := 61) (v := ?vo_w38) (w1 := (w36.setCell ⟨go35, ((rd (rd_L1 l0 x14_1) x21_2) : Int).toNat, none⟩ (.slice Ao39 y115.length co39))) ?hg ?ho ?hn ?hr ?_; (case ho => rfl); (case hg => rfl); (case hn => rfl); (case hr => first | (go_simp; done) | (go_simp; rfl)); intro w38 hw; have hg : w36.grownBy w38 (some go35) := (by rw [hw]; exact HP37.2); have hp_ : Kd.S (Kd.slice 3 (Kd.int .i64)) 33 w38 w.heap.size (fun _ => True) (.slice (some ⟨go35, 0, none⟩) x3_2.length co34) y118 := (by rw [hw, Ny118.out]; exact HP37.1); clear HP37; have n0_ := Aside0.mk ((by rw [hw]; exact below_set HB.out GB35.out : Below w.heap.size w w38)); have n1_ := Aside0.mk (hp_); clear HB; clear HO117; clear HH35; have HB := n0_; have HO_3 := n1_; clear n0_ n1_; clear hg hw hp_ hraw37))
 go_roundg kj11
 case measure => have := HK1.out; have := HK2.out; have := HJ11.out; omega
 case rel => exact ⟨(y118), (wrap64 (x21_2 + 1)), (by first | rfl | (simp; done) | (simp [*]; done)), H', ⟨by have := HK1.out; have := HK2.out; have := HJ11.out; omega⟩, ⟨by (with_reducible repeat (first | apply Kd.S_alloc | apply Kd.S_drewN | apply Kd.S_drew)); exact HO_3.out⟩, ⟨by repeat (first | (with_reducible first | exact HB.out | apply below_alloc | apply pw_below_drewN | apply below_drew1) | exact HB.out)⟩⟩
 }
 {
 rw [if_neg c32] at H
 exact absurd H (by simp)
 }
 }
 }
 {
 rw [if_neg c29] at H
 exact absurd H (by simp)
 }
 }
 {
 rw [if_neg c28] at H
 exact absurd H (by simp)
 }
 }
 }
 {
 rw [if_neg c17] at H
 exact absurd H (by simp)
 }
 }
 {
 rw [if_neg c16] at H
 exact absurd H (by simp)
 }
 }
 )
 )
 }
 {
 rw [if_neg c11] at H
 exact absurd H (by simp)
 }
 }
 {
 rw [if_neg c10] at H
 exact absurd H (by simp)
 }
 }
 {
 rw [if_neg c9] at H
 have c9b0 : decide (x21_2 < ((rd_L1 l0 x14_1).length : Int)) = false := decide_eq_false c9
 clear c9
 have H' := Aside0.mk H
 clear H
 go_wp2
 go_roundg k2
 case measure => have := HK1.out; have := HK2.out; omega
 case rel => exact ⟨(x3_2), (wrap64 (x14_1 + 1)), (by first | rfl | (simp; done) | (simp [*]; done)), H', ⟨by have := HK1.out; have := HK2.out; omega⟩, ⟨by (with_reducible repeat (first | apply Kd.S_alloc | apply Kd.S_drewN | apply Kd.S_drew)); exact HO_3.out⟩, ⟨by repeat (first | (with_reducible first | exact HB.out | apply below_alloc | apply pw_below_drewN | apply below_drew1) | exact HB.out)⟩⟩
 }
 )
 )
 }
 {
 rw [if_neg c8] at H
 exact absurd H (by simp)
 }
 }
 {
 rw [if_neg c7] at H
 exact absurd H (by simp)
 }
 }
 {
 rw [if_neg c6] at H
 have c6b0 : decide (x14_1 < (l0.length : Int)) = false := decide_eq_false c6
 clear c6
 obtain rfl := Option.some.inj H
 go_wp2
 go_ret
 exact ⟨_, by first | rfl | (simp [errW_none, errW_some] <;> rfl) | (simp [*, errW_none, errW_some] <;> rfl), by (with_reducible repeat (first | apply Kd.S_alloc | apply Kd.S_drewN | apply Kd.S_drew)); exact HO_3.out, by repeat (first | (with_reducible first | exact HB.out | apply below_alloc | apply pw_below_drewN | apply below_drew1) | exact HB.out)⟩
 }
 )
 )
 }
 {
 rw [if_neg c3] at H
 exact absurd H (by simp)
 }
 }
 {
 rw [if_neg c2] at H
 exact absurd H (by simp)
 }
/-! ### bits_All: function 23 -/
def bits_All.f (a0 : Int) : Option (Int) := if a0 ≤ 0 then (some 0) else (if a0 ≥ 64 then (some 18446744073709551615) else (if 0 ≤ a0 then (some (IntKind.u64.wrap ((shl .u64 1 a0) - 1))) else (none)))
set_option maxHeartbeats 8000000 in
set_option maxRecDepth 100000 in
theorem bits_All.calls (a0 : Int) (r : Int) (w : World) (h : bits_All.f a0 = some r) :
    Calls Try.prog 23 #[.int .i64 a0] w fun e w' => e = .returned (.int .u64 r) ∧ Drawn0 w w' := by
  have H : (if a0 ≤ 0 then (some 0) else (if a0 ≥ 64 then (some 18446744073709551615) else (if 0 ≤ a0 then (some (IntKind.u64.wrap ((shl .u64 1 a0) - 1))) else (none)))) = some r := h
  clear h
  by_cases c2 : a0 ≤ 0
  · rw [if_pos c2] at H
    have c2b0 : decide (a0 ≤ 0) = true := decide_eq_true c2
    clear c2
    obtain rfl := Option.some.inj H
    go_enter Try.func23, Try.ntmps23
    go_wp2
    go_ret
    exact ⟨by first | rfl | (simp; done) | (simp [*]; done), by repeat (first | exact Drawn0.refl _ | apply Drawn0.step)⟩
  · rw [if_neg c2] at H
    have c2b0 : decide (a0 ≤ 0) = false := decide_eq_false c2
    clear c2
    by_cases c3 : a0 ≥ 64
    · rw [if_pos c3] at H
      have c3b0 : decide (64 ≤ a0) = true := decide_eq_true c3
      clear c3
      obtain rfl := Option.some.inj H
      go_enter Try.func23, Try.ntmps23
      go_wp2
      go_ret
      exact ⟨by first | rfl | (simp; done) | (simp [*]; done), by repeat (first | exact Drawn0.refl _ | apply Drawn0.step)⟩
    · rw [if_neg c3] at H
      have c3b0 : decide (64 ≤ a0) = false := decide_eq_false c3
      clear c3
      by_cases c4 : 0 ≤ a0
      · rw [if_pos c4] at H
        have c4b0 := eq_true c4
        have c4b1 : decide (0 ≤ a0) = true := decide_eq_true c4
        clear c4
        obtain ⟨ji5, hji5⟩ : ∃ j_ : Int, (shl .u64 1 a0) = j_ := ⟨_, rfl⟩
        replace H : (some (IntKind.u64.wrap ((ji5) - 1))) = some r := by first | (rw [hji5] at H; exact H) | (simp only [hji5] at H ⊢; exact H)
        have hji5_ : (IntKind.u64.wrap (1 * 2 ^ min a0.toNat 64)) = ji5 := hji5
        have hji5z : a0 ≤ 64 → (IntKind.u64.wrap (1 * 2 ^ a0.toNat)) = ji5 := shl_small hji5
        have hji5u : (IntKind.u64.wrap (2 ^ min a0.toNat 64)) = ji5 := by have h_ := hji5_; rw [Int.one_mul] at h_; exact h_
        have hji5v : a0 ≤ 64 → (IntKind.u64.wrap (2 ^ a0.toNat)) = ji5 := fun hle_ => by have h_ := hji5z hle_; rw [Int.one_mul] at h_; exact h_
        obtain rfl := Option.some.inj H
        go_enter Try.func23, Try.ntmps23
        go_wp2
        go_ret
        exact ⟨by first | rfl | (simp; done) | (simp only [← hji5] <;> (first | rfl | (simp; done))) | (simp [*]; done), by repeat (first | exact Drawn0.refl _ | apply Drawn0.step)⟩
      · rw [if_neg c4] at H
        exact absurd H (by simp)

/-! ### flow_solver_all: function 15 -/
-- taken with its maker

/-! ### flow_solver_push: function 16 -/
-- taken with its maker

/-! ### slices_Index_int_int: function 38 -/
def slices_Index_int_int.l0 : Nat → List Int → Int → Int → Int → Option (Int)
  | 0, _, _, _, _ => none
  | k + 1, x0, x1, x7, x8 => if x8 < x7 then (if 0 ≤ x8 then (if x8 < (x0.length : Int) then (if x1 = (rd x0 x8) then (some x8) else (slices_Index_int_int.l0 k x0 x1 x7 (wrap64 (x8 + 1)))) else (none)) else (none)) else (some (-1))
def slices_Index_int_int.f (k : Nat) (l0 : List Int) (a1 : Int) : Option (Int) := slices_Index_int_int.l0 k l0 a1 (l0.length : Int) 0
theorem slices_Index_int_int.mono_l : ∀ k, (∀ y0 y1 y2 y3, LeO (slices_Index_int_int.l0 k y0 y1 y2 y3) (slices_Index_int_int.l0 (k + 1) y0 y1 y2 y3))
  | 0 => fun _ _ _ _ r h => by simp [slices_Index_int_int.l0] at h
  | k + 1 => by
    have ih0 := slices_Index_int_int.mono_l k
    · intro y0 y1 y2 y3
      unfold slices_Index_int_int.l0
      repeat' first
      | (with_reducible exact ih0 _ _ _ _)
      | (with_reducible exact LeO.refl _)
      | (with_reducible exact LeO.none _)
      | (with_reducible refine LeO.ite ?_ ?_)
      | (with_reducible refine LeO.bind ?_ (fun _ => ?_))
      | exact ih0 _ _ _ _
      | exact LeO.none _
      | refine LeO.ite ?_ ?_
      | refine LeO.bind ?_ (fun _ => ?_)
theorem slices_Index_int_int.mono : ∀ a0 a1 k, LeO (slices_Index_int_int.f k a0 a1) (slices_Index_int_int.f (k + 1) a0 a1) := by
  intro a0 a1 k
  have ih0 := slices_Index_int_int.mono_l k
  unfold slices_Index_int_int.f
  repeat' first
      | (with_reducible exact ih0 _ _ _ _)
      | (with_reducible exact LeO.refl _)
      | (with_reducible exact LeO.none _)
      | (with_reducible refine LeO.ite ?_ ?_)
      | (with_reducible refine LeO.bind ?_ (fun _ => ?_))
      | exact ih0 _ _ _ _
      | exact LeO.none _
      | refine LeO.ite ?_ ?_
      | refine LeO.bind ?_ (fun _ => ?_)
set_option maxHeartbeats 8000000 in
set_option maxRecDepth 100000 in
theorem slices_Index_int_int.calls (k : Nat) (A0 : Option Addr) (c0 : Nat) (l0 : List Int) (a1 : Int) (r : Int) (w : World) (hr0 : Kd.C (Kd.int .i64) w A0 l0.length l0) (hc0 : l0.length ≤ c0) (h : slices_Index_int_int.f k l0 a1 = some r) :
    Calls Try.prog 38 #[.slice A0 l0.length c0, .int .i64 a1] w fun e w' => e = .returned (.int .i64 r) ∧ Drawn0 w w' := by
  have HR0 := Aside0.mk hr0
  have HC0 := Aside0.mk hc0
  clear hr0 hc0
  have H : (slices_Index_int_int.l0 k l0 a1 (l0.length : Int) 0) = some r := h
  clear h
  have H' := Aside0.mk H
  clear H
  go_enter Try.func38, Try.ntmps38
  go_wp2
  go_loopg [8] k (fun kq v8 w' => ∃ (x8_1 : Int), v8 = .int .i64 x8_1 ∧ Aside0 (slices_Index_int_int.l0 kq l0 a1 (l0.length : Int) x8_1 = some r) ∧ Aside0 (kq ≤ k) ∧ Drawn0 w w')
  case atStart => exact ⟨(0), (by first | rfl | (simp; done) | (simp [*]; done)), H', ⟨Nat.le_refl _⟩, by repeat (first | exact Drawn0.refl _ | apply Drawn0.step)⟩
  case round =>
    clear H'
    try clear p2
    obtain ⟨x8_1, rfl, HA, HK1, ⟨m1, rfl⟩⟩ := hrel
    cases gk with
    | zero => exact absurd HA.out (by simp [slices_Index_int_int.l0])
    | succ k1 =>
      have H := HA.out
      clear HA
      simp only [slices_Index_int_int.l0] at H
      by_cases c3 : x8_1 < (l0.length : Int)
      · rw [if_pos c3] at H
        have c3b0 : decide (x8_1 < (l0.length : Int)) = true := decide_eq_true c3
        clear c3
        by_cases c4 : 0 ≤ x8_1
        · rw [if_pos c4] at H
          have c4b0 : decide (0 ≤ x8_1) = true := decide_eq_true c4
          clear c4
          by_cases c5 : x8_1 < (l0.length : Int)
          · rw [if_pos c5] at H
            have c5b0 : decide (x8_1 < (l0.length : Int)) = true := decide_eq_true c5
            clear c5
            by_cases c6 : a1 = (rd l0 x8_1)
            · rw [if_pos c6] at H
              have c6b0 : (a1 == (rd l0 x8_1)) = true := beq_iff_eq.mpr c6
              have c6b1 : (a1 != (rd l0 x8_1)) = false := bne_eq_false_iff_eq.mpr c6
              clear c6
              obtain rfl := Option.some.inj H
              have p119 : 0 ≤ (x8_1 : Int) := of_decide_eq_true (by first | (with_reducible assumption) | assumption)
              have q119 : x8_1 < (l0.length : Int) := of_decide_eq_true (by first | (with_reducible assumption) | assumption)
              obtain ⟨ad119, e119, hx119_0⟩ := Kd.at_int HR0.out x8_1 p119 q119
              cases e119
              replace p119 := eq_true p119
              replace q119 := eq_true q119
              go_wp2
              go_ret
              exact ⟨by first | rfl | (simp; done) | (simp [*]; done), by repeat (first | exact Drawn0.refl _ | apply Drawn0.step)⟩
            · rw [if_neg c6] at H
              have c6b0 : (a1 == (rd l0 x8_1)) = false := beq_eq_false_iff_ne.mpr c6
              have c6b1 : (a1 != (rd l0 x8_1)) = true := bne_iff_ne.mpr c6
              have H' := Aside0.mk H
              clear H
              have p119 : 0 ≤ (x8_1 : Int) := of_decide_eq_true (by first | (with_reducible assumption) | assumption)
              have q119 : x8_1 < (l0.length : Int) := of_decide_eq_true (by first | (with_reducible assumption) | assumption)
              obtain ⟨ad119, e119, hx119_0⟩ := Kd.at_int HR0.out x8_1 p119 q119
              cases e119
              replace p119 := eq_true p119
              replace q119 := eq_true q119
              go_wp2
              go_roundg k1
              case measure => have := HK1.out; omega
              case rel => exact ⟨(wrap64 (x8_1 + 1)), (by first | rfl | (simp; done) | (simp [*]; done)), H', ⟨by have := HK1.out; omega⟩, by repeat (first | exact Drawn0.refl _ | apply Drawn0.step)⟩
          · rw [if_neg c5] at H
            exact absurd H (by simp)
        · rw [if_neg c4] at H
          exact absurd H (by simp)
      · rw [if_neg c3] at H
        have c3b0 : decide (x8_1 < (l0.length : Int)) = false := decide_eq_false c3
        clear c3
        obtain rfl := Option.some.inj H
        go_wp2
        go_ret
        exact ⟨by first | rfl | (simp; done) | (simp [*]; done), by repeat (first | exact Drawn0.refl _ | apply Drawn0.step)⟩

end Go.Proofs.Ytfiemikganhgeaa.P
