-- written by this project's xprint.py (a turn of the kit's printer; its own texts among them)
import Derived.Test.YtbnkeddnibjncaaDoorPx0
namespace Go.Proofs.YtbnkeddnibjncaaDoor.P
open Go.RowKit Go.Proofs.YtbnkeddnibjncaaDoorW.PrintWords Go.Proofs.YtbnkeddnibjncaaDoorW.PrintLast Go.Proofs.YtbnkeddnibjncaaDoorW.PrintMore
attribute [local go_sem] max2_int min2_int max_two min_two max_three min_three max_four min_four   -- for this text's walks alone
attribute [local irreducible] Calls
set_option linter.unusedVariables false
set_option linter.unusedSimpArgs false

/-! ### cfg_Preds: function 20 -/
mutual
def cfg_Preds.l0 : Nat → List (List Int) → List (List Int) → Int → Int → Option ((List (List Int)))
  | 0, _, _, _, _ => none
  | k + 1, x3, x12, x13, x14 => if x14 < x13 then (if 0 ≤ x14 then (if x14 < (x12.length : Int) then (cfg_Preds.l1 k x3 x14 x12 x13 x14 (rd_L1 x12 x14) ((rd_L1 x12 x14).length : Int) 0) else (none)) else (none)) else (some x3)
def cfg_Preds.l1 : Nat → List (List Int) → Int → List (List Int) → Int → Int → List Int → Int → Int → Option ((List (List Int)))
  | 0, _, _, _, _, _, _, _, _ => none
  | k + 1, x3, x4, x12, x13, x14, x19, x20, x21 => if x21 < x20 then (if 0 ≤ x21 then (if x21 < (x19.length : Int) then (if (rd x19 x21) < 0 then (cfg_Preds.j2 k x3 x4 (rd x19 x21) x12 x13 x14 x19 x20 x21 true) else (cfg_Preds.j2 k x3 x4 (rd x19 x21) x12 x13 x14 x19 x20 x21 (decide ((rd x19 x21) ≥ (x3.length : Int))))) else (none)) else (none)) else (cfg_Preds.l0 k x3 x12 x13 (wrap64 (x14 + 1)))
def cfg_Preds.j2 : Nat → List (List Int) → Int → Int → List (List Int) → Int → Int → List Int → Int → Int → Bool → Option ((List (List Int)))
  | 0, _, _, _, _, _, _, _, _, _, _ => none
  | k + 1, x3, x4, x7, x12, x13, x14, x19, x20, x21, x32 => if x32 = true then (cfg_Preds.l1 k x3 x4 x12 x13 x14 x19 x20 (wrap64 (x21 + 1))) else (if 0 ≤ x7 then (if x7 < (x3.length : Int) then (if ((rd_L1 x3 x7).length : Int) = 0 then (if (rd_L1 x3 x7).length < 17592186044416 then (cfg_Preds.l1 k (x3.set (x7 : Int).toNat ((rd_L1 x3 x7) ++ [x4])) x4 x12 x13 x14 x19 x20 (wrap64 (x21 + 1))) else (none)) else (if 0 ≤ (wrap64 (((rd_L1 x3 x7).length : Int) - 1)) then (if (wrap64 (((rd_L1 x3 x7).length : Int) - 1)) < ((rd_L1 x3 x7).length : Int) then (if (rd (rd_L1 x3 x7) (wrap64 (((rd_L1 x3 x7).length : Int) - 1))) = x4 then (cfg_Preds.l1 k x3 x4 x12 x13 x14 x19 x20 (wrap64 (x21 + 1))) else (if (rd_L1 x3 x7).length < 17592186044416 then (cfg_Preds.l1 k (x3.set (x7 : Int).toNat ((rd_L1 x3 x7) ++ [x4])) x4 x12 x13 x14 x19 x20 (wrap64 (x21 + 1))) else (none))) else (none)) else (none))) else (none)) else (none))
end
def cfg_Preds.f (k : Nat) (l0 : List (List Int)) : Option ((List (List Int))) := if 0 ≤ (l0.length : Int) then (if ((l0.length : Int) : Int).toNat ≤ 11728124029610 then (cfg_Preds.l0 k (List.replicate ((l0.length : Int) : Int).toNat []) l0 (l0.length : Int) 0) else (none)) else (none)
theorem cfg_Preds.mono_l : ∀ k, (∀ y0 y1 y2 y3, LeO (cfg_Preds.l0 k y0 y1 y2 y3) (cfg_Preds.l0 (k + 1) y0 y1 y2 y3)) ∧ (∀ y0 y1 y2 y3 y4 y5 y6 y7, LeO (cfg_Preds.l1 k y0 y1 y2 y3 y4 y5 y6 y7) (cfg_Preds.l1 (k + 1) y0 y1 y2 y3 y4 y5 y6 y7)) ∧ (∀ y0 y1 y2 y3 y4 y5 y6 y7 y8 y9, LeO (cfg_Preds.j2 k y0 y1 y2 y3 y4 y5 y6 y7 y8 y9) (cfg_Preds.j2 (k + 1) y0 y1 y2 y3 y4 y5 y6 y7 y8 y9))
  | 0 => ⟨fun _ _ _ _ r h => by simp [cfg_Preds.l0] at h, fun _ _ _ _ _ _ _ _ r h => by simp [cfg_Preds.l1] at h, fun _ _ _ _ _ _ _ _ _ _ r h => by simp [cfg_Preds.j2] at h⟩
  | k + 1 => by
    obtain ⟨ih0, ih1, ih2⟩ := cfg_Preds.mono_l k
    refine ⟨?_, ?_, ?_⟩
    · intro y0 y1 y2 y3
      unfold cfg_Preds.l0
      repeat' first
      | (with_reducible exact ih0 _ _ _ _)
      | (with_reducible exact ih1 _ _ _ _ _ _ _ _)
      | (with_reducible exact ih2 _ _ _ _ _ _ _ _ _ _)
      | (with_reducible exact LeO.refl _)
      | (with_reducible exact LeO.none _)
      | (with_reducible refine LeO.ite ?_ ?_)
      | (with_reducible refine LeO.bind ?_ (fun _ => ?_))
      | exact ih0 _ _ _ _
      | exact ih1 _ _ _ _ _ _ _ _
      | exact ih2 _ _ _ _ _ _ _ _ _ _
      | exact LeO.none _
      | refine LeO.ite ?_ ?_
      | refine LeO.bind ?_ (fun _ => ?_)
    · intro y0 y1 y2 y3 y4 y5 y6 y7
      unfold cfg_Preds.l1
      repeat' first
      | (with_reducible exact ih0 _ _ _ _)
      | (with_reducible exact ih1 _ _ _ _ _ _ _ _)
      | (with_reducible exact ih2 _ _ _ _ _ _ _ _ _ _)
      | (with_reducible exact LeO.refl _)
      | (with_reducible exact LeO.none _)
      | (with_reducible refine LeO.ite ?_ ?_)
      | (with_reducible refine LeO.bind ?_ (fun _ => ?_))
      | exact ih0 _ _ _ _
      | exact ih1 _ _ _ _ _ _ _ _
      | exact ih2 _ _ _ _ _ _ _ _ _ _
      | exact LeO.none _
      | refine LeO.ite ?_ ?_
      | refine LeO.bind ?_ (fun _ => ?_)
    · intro y0 y1 y2 y3 y4 y5 y6 y7 y8 y9
      unfold cfg_Preds.j2
      repeat' first
      | (with_reducible exact ih0 _ _ _ _)
      | (with_reducible exact ih1 _ _ _ _ _ _ _ _)
      | (with_reducible exact ih2 _ _ _ _ _ _ _ _ _ _)
      | (with_reducible exact LeO.refl _)
      | (with_reducible exact LeO.none _)
      | (with_reducible refine LeO.ite ?_ ?_)
      | (with_reducible refine LeO.bind ?_ (fun _ => ?_))
      | exact ih0 _ _ _ _
      | exact ih1 _ _ _ _ _ _ _ _
      | exact ih2 _ _ _ _ _ _ _ _ _ _
      | exact LeO.none _
      | refine LeO.ite ?_ ?_
      | refine LeO.bind ?_ (fun _ => ?_)
theorem cfg_Preds.mono : ∀ a0 k, LeO (cfg_Preds.f k a0) (cfg_Preds.f (k + 1) a0) := by
  intro a0 k
  obtain ⟨ih0, ih1, ih2⟩ := cfg_Preds.mono_l k
  unfold cfg_Preds.f
  repeat' first
      | (with_reducible exact ih0 _ _ _ _)
      | (with_reducible exact ih1 _ _ _ _ _ _ _ _)
      | (with_reducible exact ih2 _ _ _ _ _ _ _ _ _ _)
      | (with_reducible exact LeO.refl _)
      | (with_reducible exact LeO.none _)
      | (with_reducible refine LeO.ite ?_ ?_)
      | (with_reducible refine LeO.bind ?_ (fun _ => ?_))
      | exact ih0 _ _ _ _
      | exact ih1 _ _ _ _ _ _ _ _
      | exact ih2 _ _ _ _ _ _ _ _ _ _
      | exact LeO.none _
      | refine LeO.ite ?_ ?_
      | refine LeO.bind ?_ (fun _ => ?_)
set_option maxHeartbeats 8000000 in
set_option maxRecDepth 100000 in
theorem cfg_Preds.calls (k : Nat) (A0 : Option Addr) (c0 : Nat) (l0 : List (List Int)) (r : List (List Int)) (w : World) (hr0 : Kd.C (Kd.slice 3 (Kd.int .i64)) w A0 l0.length l0) (hc0 : l0.length ≤ c0) (h : cfg_Preds.f k l0 = some r) :
    Calls Tryd.prog 20 #[.slice A0 l0.length c0] w fun e w' => ∃ v0_ : Value, e = .returned (v0_) ∧ Kd.S (Kd.slice 3 (Kd.int .i64)) 31 w' w.heap.size (fun _ => True) v0_ r ∧ Below w.heap.size w w' := by
 have HR0 := Aside0.mk hr0
 have HC0 := Aside0.mk hc0
 clear hr0 hc0
 have HB := Aside0.mk (Below.refl w.heap.size w)
 have H : (if 0 ≤ (l0.length : Int) then (if ((l0.length : Int) : Int).toNat ≤ 11728124029610 then (cfg_Preds.l0 k (List.replicate ((l0.length : Int) : Int).toNat []) l0 (l0.length : Int) 0) else (none)) else (none)) = some r := h
 clear h
 by_cases c2 : 0 ≤ (l0.length : Int)
 {
 rw [if_pos c2] at H
 have c2b0 := eq_true c2
 have c2b1 : decide (0 ≤ (l0.length : Int)) = true := decide_eq_true c2
 clear c2
 by_cases c3 : ((l0.length : Int) : Int).toNat ≤ 11728124029610
 {
 rw [if_pos c3] at H
 have c3b0 := eq_true c3
 have c3b1 : decide (((l0.length : Int) : Int).toNat ≤ 11728124029610) = true := decide_eq_true c3
 clear c3
 obtain ⟨y112, hy112⟩ : ∃ y_ : List (List Int), y_ = (List.replicate ((l0.length : Int) : Int).toNat []) := ⟨_, rfl⟩
 replace H : (cfg_Preds.l0 k y112 l0 (l0.length : Int) 0) = some r := by first | (rw [hy112]; with_reducible exact H) | (have H2_ := (Option.bind_some _ _).symm.trans H; rw [hy112]; with_reducible exact H2_) | (have H2_ := (Option.bind_some _ _).symm.trans H; with_reducible exact H2_) | with_reducible exact H | (rw [hy112]; exact H) | exact H
 have Ny112 := Aside0.mk hy112
 clear hy112
 have H' := Aside0.mk H
 clear H
 go_enter Tryd.func20, Tryd.ntmps20
 go_wp2_with (first | ((with_reducible refine gate_dst (N := 11) rfl ?_); (try (refine gate_guard (by rfl) ?_; dsimp only)); refine Kd.S_make (Kd.slice 3 (Kd.int .i64)) _ 31 rfl (N := 11) rfl 23 _ _ rfl (l0.length : Int) rfl rfl Tryd.underlying23 (.slice none 0 0) 24 info31 rfl (by decide) (by omega) [] (ok := fun _ => True) (okp := fun _ => True) ⟨_, rfl, Kd.R_nil _ _ _ _ _⟩ (fun _ hk => hk) trivial (of_decide_eq_true (by first | (with_reducible assumption) | assumption)) (Nat.le_trans (Nat.mul_le_mul_right _ (of_decide_eq_true (by first | (with_reducible assumption) | assumption) : (l0.length : Int).toNat ≤ 11728124029610)) (by omega)) (Below.refl _ _) (Nat.le_refl _) ?_; intro v113 w4 ho5 hb hg_ hnew_; clear hg_ hnew_; (first | rw [← Ny112.out] at ho5 | (simp only [Int.reduceToNat] at ho5; rw [← Ny112.out] at ho5)); have n0_ := Aside0.mk (Kd.S_lower ho5 (below_size (by repeat (first | (with_reducible first | exact HB.out | apply below_alloc | apply pw_below_drewN | apply below_drew1) | exact HB.out)))); have n1_ := Aside0.mk (below_step (by repeat (first | (with_reducible first | exact HB.out | apply below_alloc | apply pw_below_drewN | apply below_drew1) | exact HB.out)) hb); clear HB; have HO114 := n0_; have HB := n1_; clear n0_ n1_; clear hb ho5))
 go_loopg [14] k (fun kq v14 w' => ∃ (x3_1 : List (List Int)) (x14_1 : Int), v14 = .int .i64 x14_1 ∧ Aside0 (cfg_Preds.l0 kq x3_1 l0 (l0.length : Int) x14_1 = some r) ∧ Aside0 (kq ≤ k) ∧ Aside0 (Kd.S (Kd.slice 3 (Kd.int .i64)) 31 w' w.heap.size (fun _ => True) v113 x3_1) ∧ Aside0 (Below w.heap.size w w'))
 case atStart => exact ⟨(y112), (0), (by first | rfl | (simp; done) | (simp [*]; done)), H', ⟨Nat.le_refl _⟩, ⟨by (with_reducible repeat (first | apply Kd.S_alloc | apply Kd.S_drewN | apply Kd.S_drew)); exact HO114.out⟩, ⟨by repeat (first | (with_reducible first | exact HB.out | apply below_alloc | apply pw_below_drewN | apply below_drew1) | exact HB.out)⟩⟩
 case round => (
 clear H'
 try clear c2
 try clear c2b0
 try clear c2b1
 try clear p2
 try clear c3
 try clear c3b0
 try clear c3b1
 obtain ⟨x3_1, x14_1, rfl, HA, HK1, HO_3, HB⟩ := hrel
 cases gk with
 | zero => exact absurd HA.out (by simp [cfg_Preds.l0])
 | succ k1 => (
 have H := HA.out
 clear HA
 simp only [cfg_Preds.l0] at H
 by_cases c6 : x14_1 < (l0.length : Int)
 {
 rw [if_pos c6] at H
 have c6b0 : decide (x14_1 < (l0.length : Int)) = true := decide_eq_true c6
 clear c6
 by_cases c7 : 0 ≤ x14_1
 {
 rw [if_pos c7] at H
 have c7b0 : decide (0 ≤ x14_1) = true := decide_eq_true c7
 clear c7
 by_cases c8 : x14_1 < (l0.length : Int)
 {
 rw [if_pos c8] at H
 have c8b0 : decide (x14_1 < (l0.length : Int)) = true := decide_eq_true c8
 clear c8
 have H' := Aside0.mk H
 clear H
 have p115 : 0 ≤ (x14_1 : Int) := of_decide_eq_true (by first | (with_reducible assumption) | assumption)
 have q115 : x14_1 < (l0.length : Int) := of_decide_eq_true (by first | (with_reducible assumption) | assumption)
 obtain ⟨ad115, A115_0, c115_0, e115, hx115_0, hl115_0, hi115_0⟩ := at_L1 HR0.out x14_1 p115 q115
 cases e115
 replace hx115_0 := (HB.out.cell (World.block_lt_of_cell? w _ hx115_0)).trans hx115_0
 have HR115_0 := Aside0.mk hi115_0
 have HC115_0 := Aside0.mk hl115_0
 clear hi115_0 hl115_0
 replace p115 := eq_true p115
 replace q115 := eq_true q115
 go_wp2
 go_loopg [21] k1 (fun kq v21 w' => ∃ (x3_2 : List (List Int)) (x21_2 : Int), v21 = .int .i64 x21_2 ∧ Aside0 (cfg_Preds.l1 kq x3_2 x14_1 l0 (l0.length : Int) x14_1 (rd_L1 l0 x14_1) ((rd_L1 l0 x14_1).length : Int) x21_2 = some r) ∧ Aside0 (kq ≤ k1) ∧ Aside0 (Kd.S (Kd.slice 3 (Kd.int .i64)) 31 w' w.heap.size (fun _ => True) v113 x3_2) ∧ Aside0 (Below w.heap.size w w'))
 case atStart => exact ⟨(x3_1), (0), (by first | rfl | (simp; done) | (simp [*]; done)), H', ⟨Nat.le_refl _⟩, ⟨by (with_reducible repeat (first | apply Kd.S_alloc | apply Kd.S_drewN | apply Kd.S_drew)); exact HO_3.out⟩, ⟨by repeat (first | (with_reducible first | exact HB.out | apply below_alloc | apply pw_below_drewN | apply below_drew1) | exact HB.out)⟩⟩
 case round => (
 clear H'
 try clear c1
 try clear p1
 try clear q1
 try clear hx1
 try clear c2
 try clear c2b0
 try clear c2b1
 try clear p2
 try clear c3
 try clear c3b0
 try clear c3b1
 try clear c6
 try clear c6b0
 try clear c7
 try clear c7b0
 try clear c8
 try clear c8b0
 try clear hx115_0
 try clear p115
 try clear p2
 try clear q115
 obtain ⟨x3_2, x21_2, rfl, HA, HK2, HO_3, HB⟩ := hrel
 cases gk with
 | zero => exact absurd HA.out (by simp [cfg_Preds.l1])
 | succ k2 => (
 have H := HA.out
 clear HA
 simp only [cfg_Preds.l1] at H
 by_cases c9 : x21_2 < ((rd_L1 l0 x14_1).length : Int)
 {
 rw [if_pos c9] at H
 have c9b0 : decide (x21_2 < ((rd_L1 l0 x14_1).length : Int)) = true := decide_eq_true c9
 clear c9
 by_cases c10 : 0 ≤ x21_2
 {
 rw [if_pos c10] at H
 have c10b0 : decide (0 ≤ x21_2) = true := decide_eq_true c10
 clear c10
 by_cases c11 : x21_2 < ((rd_L1 l0 x14_1).length : Int)
 {
 rw [if_pos c11] at H
 have c11b0 : decide (x21_2 < ((rd_L1 l0 x14_1).length : Int)) = true := decide_eq_true c11
 clear c11
 have HC12 := Aside0.mk H
 clear H
 have p116 : 0 ≤ (x21_2 : Int) := of_decide_eq_true (by first | (with_reducible assumption) | assumption)
 have q116 : x21_2 < ((rd_L1 l0 x14_1).length : Int) := of_decide_eq_true (by first | (with_reducible assumption) | assumption)
 obtain ⟨ad116, e116, hx116_0⟩ := Kd.at_int HR115_0.out x21_2 p116 q116
 cases e116
 replace hx116_0 := (HB.out.cell (World.block_lt_of_cell? w _ hx116_0)).trans hx116_0
 replace p116 := eq_true p116
 replace q116 := eq_true q116
 go_upto_region 8 with (fail)
 go_cut [32] (fun v32 wc => ∃ (kq : Nat) (x32_11 : Bool), v32 = .bool x32_11 ∧ Aside0 (cfg_Preds.j2 kq x3_2 x14_1 (rd (rd_L1 l0 x14_1) x21_2) l0 (l0.length : Int) x14_1 (rd_L1 l0 x14_1) ((rd_L1 l0 x14_1).length : Int) x21_2 x32_11 = some r) ∧ Aside0 (kq ≤ k2) ∧ Aside0 (Kd.S (Kd.slice 3 (Kd.int .i64)) 31 wc w.heap.size (fun _ => True) v113 x3_2) ∧ Aside0 (Below w.heap.size w wc))
 case first => (
 have H := HC12.out
 clear HC12
 by_cases c13 : (rd (rd_L1 l0 x14_1) x21_2) < 0
 {
 rw [if_pos c13] at H
 have c13b0 : decide ((rd (rd_L1 l0 x14_1) x21_2) < 0) = true := decide_eq_true c13
 clear c13
 (first | rw [c13b0] | (simp only [i64_w, i32_w]; rw [c13b0]) | skip)
 have H' := Aside0.mk H
 clear H
 go_wp2
 go_meet
 case rel => exact ⟨_, (true), (by first | rfl | (simp; done) | (simp [*]; done)), H', ⟨by have := HK1.out; have := HK2.out; first | omega | exact Nat.le_refl _⟩, ⟨by (with_reducible repeat (first | apply Kd.S_alloc | apply Kd.S_drewN | apply Kd.S_drew)); exact HO_3.out⟩, ⟨by repeat (first | (with_reducible first | exact HB.out | apply below_alloc | apply pw_below_drewN | apply below_drew1) | exact HB.out)⟩⟩
 }
 {
 rw [if_neg c13] at H
 have c13b0 : decide ((rd (rd_L1 l0 x14_1) x21_2) < 0) = false := decide_eq_false c13
 clear c13
 (first | rw [c13b0] | (simp only [i64_w, i32_w]; rw [c13b0]) | skip)
 have H' := Aside0.mk H
 clear H
 obtain ⟨Ao14, co14, eo14⟩ := Kd.S_slice HO_3.out
 subst eo14
 go_wp2
 go_meet
 case rel => exact ⟨_, (decide ((rd (rd_L1 l0 x14_1) x21_2) ≥ (x3_2.length : Int))), (by first | rfl | (simp; done) | (simp [*]; done)), H', ⟨by have := HK1.out; have := HK2.out; first | omega | exact Nat.le_refl _⟩, ⟨by (with_reducible repeat (first | apply Kd.S_alloc | apply Kd.S_drewN | apply Kd.S_drew)); exact HO_3.out⟩, ⟨by repeat (first | (with_reducible first | exact HB.out | apply below_alloc | apply pw_below_drewN | apply below_drew1) | exact HB.out)⟩⟩
 }
 )
 case rest => (
 clear HC12
 try clear c1
 try clear p1
 try clear q1
 try clear hx1
 try clear c2
 try clear c2b0
 try clear c2b1
 try clear p2
 try clear c3
 try clear c3b0
 try clear c3b1
 try clear c6
 try clear c6b0
 try clear c7
 try clear c7b0
 try clear c8
 try clear c8b0
 try clear c9
 try clear c9b0
 try clear c10
 try clear c10b0
 try clear c11
 try clear c11b0
 try clear p11
 try clear q11
 try clear hx11
 try clear c13
 try clear c13b0
 try clear hx115_0
 try clear hx116_0
 try clear p1
 try clear p115
 try clear p116
 try clear p2
 try clear q1
 try clear q115
 try clear q116
 obtain ⟨kq, x32_11, rfl, HA, HJ11, HO_3, HB⟩ := hcut
 cases kq with
 | zero => exact absurd HA.out (by simp [cfg_Preds.j2])
 | succ kj11 => (
 have H := HA.out
 clear HA
 simp only [cfg_Preds.j2] at H
 by_cases c15 : x32_11 = true
 {
 subst c15
 have H1 : (cfg_Preds.l1 kj11 x3_2 x14_1 l0 (l0.length : Int) x14_1 (rd_L1 l0 x14_1) ((rd_L1 l0 x14_1).length : Int) (wrap64 (x21_2 + 1))) = some r := by rw [if_pos rfl] at H; exact H
 clear H
 have H := H1
 clear H1
 have H' := Aside0.mk H
 clear H
 go_wp2
 go_roundg kj11
 case measure => have := HK1.out; have := HK2.out; have := HJ11.out; omega
 case rel => exact ⟨(x3_2), (wrap64 (x21_2 + 1)), (by first | rfl | (simp; done) | (simp [*]; done)), H', ⟨by have := HK1.out; have := HK2.out; have := HJ11.out; omega⟩, ⟨by (with_reducible repeat (first | apply Kd.S_alloc | apply Kd.S_drewN | apply Kd.S_drew)); exact HO_3.out⟩, ⟨by repeat (first | (with_reducible first | exact HB.out | apply below_alloc | apply pw_below_drewN | apply below_drew1) | exact HB.out)⟩⟩
 }
 {
 replace c15 := Bool.eq_false_iff.mpr c15
 subst c15
 have H1 : (if 0 ≤ (rd (rd_L1 l0 x14_1) x21_2) then (if (rd (rd_L1 l0 x14_1) x21_2) < (x3_2.length : Int) then (if ((rd_L1 x3_2 (rd (rd_L1 l0 x14_1) x21_2)).length : Int) = 0 then (if (rd_L1 x3_2 (rd (rd_L1 l0 x14_1) x21_2)).length < 17592186044416 then (cfg_Preds.l1 kj11 (x3_2.set ((rd (rd_L1 l0 x14_1) x21_2) : Int).toNat ((rd_L1 x3_2 (rd (rd_L1 l0 x14_1) x21_2)) ++ [x14_1])) x14_1 l0 (l0.length : Int) x14_1 (rd_L1 l0 x14_1) ((rd_L1 l0 x14_1).length : Int) (wrap64 (x21_2 + 1))) else (none)) else (if 0 ≤ (wrap64 (((rd_L1 x3_2 (rd (rd_L1 l0 x14_1) x21_2)).length : Int) - 1)) then (if (wrap64 (((rd_L1 x3_2 (rd (rd_L1 l0 x14_1) x21_2)).length : Int) - 1)) < ((rd_L1 x3_2 (rd (rd_L1 l0 x14_1) x21_2)).length : Int) then (if (rd (rd_L1 x3_2 (rd (rd_L1 l0 x14_1) x21_2)) (wrap64 (((rd_L1 x3_2 (rd (rd_L1 l0 x14_1) x21_2)).length : Int) - 1))) = x14_1 then (cfg_Preds.l1 kj11 x3_2 x14_1 l0 (l0.length : Int) x14_1 (rd_L1 l0 x14_1) ((rd_L1 l0 x14_1).length : Int) (wrap64 (x21_2 + 1))) else (if (rd_L1 x3_2 (rd (rd_L1 l0 x14_1) x21_2)).length < 17592186044416 then (cfg_Preds.l1 kj11 (x3_2.set ((rd (rd_L1 l0 x14_1) x21_2) : Int).toNat ((rd_L1 x3_2 (rd (rd_L1 l0 x14_1) x21_2)) ++ [x14_1])) x14_1 l0 (l0.length : Int) x14_1 (rd_L1 l0 x14_1) ((rd_L1 l0 x14_1).length : Int) (wrap64 (x21_2 + 1))) else (none))) else (none)) else (none))) else (none)) else (none)) = some r := by rw [if_neg (show ¬ (false = true) by decide)] at H; exact H
 clear H
 have H := H1
 clear H1
 by_cases c16 : 0 ≤ (rd (rd_L1 l0 x14_1) x21_2)
 {
 rw [if_pos c16] at H
 have c16b0 : decide (0 ≤ (rd (rd_L1 l0 x14_1) x21_2)) = true := decide_eq_true c16
 clear c16
 by_cases c17 : (rd (rd_L1 l0 x14_1) x21_2) < (x3_2.length : Int)
 {
 rw [if_pos c17] at H
 have c17b0 : decide ((rd (rd_L1 l0 x14_1) x21_2) < (x3_2.length : Int)) = true := decide_eq_true c17
 clear c17
 by_cases c18 : ((rd_L1 x3_2 (rd (rd_L1 l0 x14_1) x21_2)).length : Int) = 0
 {
 rw [if_pos c18] at H
 have c18b0 : (((rd_L1 x3_2 (rd (rd_L1 l0 x14_1) x21_2)).length : Int) == 0) = true := beq_iff_eq.mpr c18
 have c18b1 : (((rd_L1 x3_2 (rd (rd_L1 l0 x14_1) x21_2)).length : Int) != 0) = false := bne_eq_false_iff_eq.mpr c18
 clear c18
 by_cases c19 : (rd_L1 x3_2 (rd (rd_L1 l0 x14_1) x21_2)).length < 17592186044416
 {
 rw [if_pos c19] at H
 have LMc19 := Aside0.mk c19
 clear c19
 obtain ⟨y119, hy119⟩ : ∃ y_ : List Int, y_ = ((rd_L1 x3_2 (rd (rd_L1 l0 x14_1) x21_2)) ++ [x14_1]) := ⟨_, rfl⟩
 replace H : (cfg_Preds.l1 kj11 (x3_2.set ((rd (rd_L1 l0 x14_1) x21_2) : Int).toNat y119) x14_1 l0 (l0.length : Int) x14_1 (rd_L1 l0 x14_1) ((rd_L1 l0 x14_1).length : Int) (wrap64 (x21_2 + 1))) = some r := by first | (rw [hy119]; with_reducible exact H) | (have H2_ := (Option.bind_some _ _).symm.trans H; rw [hy119]; with_reducible exact H2_) | (have H2_ := (Option.bind_some _ _).symm.trans H; with_reducible exact H2_) | with_reducible exact H | (rw [hy119]; exact H) | exact H
 have Ny119 := Aside0.mk hy119
 clear hy119
 obtain ⟨y122, hy122⟩ : ∃ y_ : List (List Int), y_ = (x3_2.set ((rd (rd_L1 l0 x14_1) x21_2) : Int).toNat y119) := ⟨_, rfl⟩
 replace H : (cfg_Preds.l1 kj11 y122 x14_1 l0 (l0.length : Int) x14_1 (rd_L1 l0 x14_1) ((rd_L1 l0 x14_1).length : Int) (wrap64 (x21_2 + 1))) = some r := by first | (rw [hy122]; with_reducible exact H) | (have H2_ := (Option.bind_some _ _).symm.trans H; rw [hy122]; with_reducible exact H2_) | (have H2_ := (Option.bind_some _ _).symm.trans H; with_reducible exact H2_) | with_reducible exact H | (rw [hy122]; exact H) | exact H
 have Ny122 := Aside0.mk hy122
 clear hy122
 have H' := Aside0.mk H
 clear H
 obtain ⟨Ao21, co21, eo21⟩ := Kd.S_slice HO_3.out
 subst eo21
 have p117 : 0 ≤ ((rd (rd_L1 l0 x14_1) x21_2) : Int) := of_decide_eq_true (by first | (with_reducible assumption) | assumption)
 have q117 : (rd (rd_L1 l0 x14_1) x21_2) < (x3_2.length : Int) := of_decide_eq_true (by first | (with_reducible assumption) | assumption)
 obtain ⟨ad117, A117_0, c117_0, e117, hx117_0, hl117_0, hi117_0⟩ := at_L1 (Kd.S_reads' HO_3.out).2.2 (rd (rd_L1 l0 x14_1) x21_2) p117 q117
 cases e117
 obtain ⟨ce117, hce117, hMe117, hcc117⟩ := Kd.S_get HO_3.out [] (rd (rd_L1 l0 x14_1) x21_2) p117 (by first | exact q117 | exact of_decide_eq_true (by first | (with_reducible assumption) | assumption) | (have e_ := (Kd.S_reads' HO_3.out).1; omega))
 obtain ⟨ve117_0, rfl, ge117_0⟩ := hMe117
 have hv117_0 := hcc117 0 _ rfl
 rw [Nat.add_zero, show ((Kd.slice 3 (Kd.int .i64))).sz = 1 from rfl, Nat.mul_one] at hv117_0
 replace hv117_0 := Option.some.inj (hv117_0.symm.trans hx117_0)
 rw [hv117_0] at ge117_0
 have HL117_0 := Aside0.mk (show Kd.R (Kd.int .i64) 3 _ _ _ _ (rd_L1 x3_2 (rd (rd_L1 l0 x14_1) x21_2)) from ge117_0)
 clear hv117_0 ge117_0
 have HX117_0 := Aside0.mk hx117_0
 clear hcc117 hce117
 have HR117_0 := Aside0.mk hi117_0
 have HC117_0 := Aside0.mk hl117_0
 clear hi117_0 hl117_0
 replace p117 := eq_true p117
 replace q117 := eq_true q117
 have p118 : 0 ≤ ((rd (rd_L1 l0 x14_1) x21_2) : Int) := of_decide_eq_true (by first | (with_reducible assumption) | assumption)
 have q118 : (rd (rd_L1 l0 x14_1) x21_2) < (x3_2.length : Int) := of_decide_eq_true (by first | (with_reducible assumption) | assumption)
 obtain ⟨ad118, A118_0, c118_0, e118, hx118_0, hl118_0, hi118_0⟩ := at_L1 (Kd.S_reads' HO_3.out).2.2 (rd (rd_L1 l0 x14_1) x21_2) p118 q118
 obtain rfl : ad117 = ad118 := (by injection e118)
 obtain ⟨ce118, hce118, hMe118, hcc118⟩ := Kd.S_get HO_3.out [] (rd (rd_L1 l0 x14_1) x21_2) p118 (by first | exact q118 | exact of_decide_eq_true (by first | (with_reducible assumption) | assumption) | (have e_ := (Kd.S_reads' HO_3.out).1; omega))
 obtain ⟨ve118_0, rfl, ge118_0⟩ := hMe118
 have hv118_0 := hcc118 0 _ rfl
 rw [Nat.add_zero, show ((Kd.slice 3 (Kd.int .i64))).sz = 1 from rfl, Nat.mul_one] at hv118_0
 replace hv118_0 := Option.some.inj (hv118_0.symm.trans hx118_0)
 rw [hv118_0] at ge118_0
 have HL118_0 := Aside0.mk (show Kd.R (Kd.int .i64) 3 _ _ _ _ (rd_L1 x3_2 (rd (rd_L1 l0 x14_1) x21_2)) from ge118_0)
 clear hv118_0 ge118_0
 have HX118_0 := Aside0.mk hx118_0
 clear hcc118 hce118
 have HR118_0 := Aside0.mk hi118_0
 have HC118_0 := Aside0.mk hl118_0
 clear hi118_0 hl118_0
 replace p118 := eq_true p118
 replace q118 := eq_true q118
 have ea_ := Option.some.inj (hx117_0.symm.trans hx118_0)
 injection ea_ with ea_ en_ ec_
 subst ea_
 subst ec_
 clear en_
 obtain ⟨go22, co22, eo22, gb22, gl22, cl22, HG22⟩ := Kd.S_form HO_3.out (by have h_ : ((rd (rd_L1 l0 x14_1) x21_2) : Int) < ((x3_2.length : Int) : Int) := of_decide_eq_true (by first | (with_reducible assumption) | assumption); have h2_ : 0 ≤ ((rd (rd_L1 l0 x14_1) x21_2) : Int) := (of_decide_eq_true (by first | (with_reducible assumption) | assumption)); omega)
 (first | cases eo22 | (injection eo22 with ea_ en_ ec_; (first | subst ea_ | (injection ea_ with ea_; subst ea_)); subst ec_; clear en_))
 have GB22 := Aside0.mk gb22
 have GG22 := Aside0.mk HG22
 clear gb22 gl22 HG22
 (first | simp only [add_plain] at hx117_0 | skip)
 (first | simp only [add_plain] at hx118_0 | skip)
 obtain ⟨oki22, ce22, hcl22, hM22, hcc22, _, _, hH22⟩ := Kd.S_elem HO_3.out [] ((rd (rd_L1 l0 x14_1) x21_2) : Int) (of_decide_eq_true (by first | (with_reducible assumption) | assumption)) (by have h_ : ((rd (rd_L1 l0 x14_1) x21_2) : Int) < ((x3_2.length : Int) : Int) := of_decide_eq_true (by first | (with_reducible assumption) | assumption); first | exact h_ | (have e_ := (Kd.S_reads' HO_3.out).1; omega) | simpa using h_)
 obtain ⟨ve22_0, rfl, ge22_0⟩ := hM22
 have hv22 := hcc22 0 _ rfl
 have hX22 := HX118_0.out
 (try simp only [add_plain] at hX22)
 (try simp only [Nat.add_zero] at hv22)
 (try rw [show ((Kd.slice 3 (Kd.int .i64))).sz = 1 from rfl, Nat.mul_one] at hv22)
 replace hv22 := Option.some.inj (hv22.symm.trans hX22)
 subst hv22
 clear hX22 hcc22 hcl22
 have UU22 := Aside0.mk (show Kd.R (Kd.int .i64) 3 _ w.heap.size oki22 (.slice A117_0 (rd_L1 x3_2 (rd (rd_L1 l0 x14_1) x21_2)).length c117_0) (rd_L1 x3_2 (rd (rd_L1 l0 x14_1) x21_2)) from ge22_0)
 have HH22 := Aside0.mk hH22
 have HN22 := Aside0.mk (Kd.S_reads' HO_3.out).1
 clear hH22 ge22_0
 go_wp2_with (first | ((with_reducible refine gate_builtin (b := .append) (xs := #[.tmp 57, .tmp 59]) rfl ?_); (try (refine gate_guard (by rfl) ?_; dsimp only)); at_builtin; refine Kd.R_append (Kd.int .i64) (w0 := w) w.heap.size rfl (.tmp 57) (.tmp 59) 31 3 (.int .i64 0) 8 rfl Tryd.underlying31 info3 rfl (by decide) (by omega) (.slice A117_0 (rd_L1 x3_2 (rd (rd_L1 l0 x14_1) x21_2)).length c117_0) (rd_L1 x3_2 (rd (rd_L1 l0 x14_1) x21_2)) x14_1 [.int .i64 x14_1] (fun k_ => oki22 k_ ∨ ((fun _ => True)) k_ ∧ wc.heap.size ≤ k_) (fun _ => False) rfl rfl ?aP (fun _ hk => hk.elim) ?aF ?aO ?aB ?aS ?aL ?_; (case aP => exact rfl); (case aB => exact (by repeat (first | (with_reducible first | exact HB.out | apply below_alloc | apply pw_below_drewN | apply below_drew1) | exact HB.out))); (case aF => exact (fun k_ hk => .inr ⟨trivial, hk⟩)); (case aO => exact (by (with_reducible repeat (first | apply Kd.R_alloc | apply Kd.R_drewN | apply Kd.R_drew)); exact Kd.R_mono UU22.out (fun _ hk => .inl hk))); (case aS => exact (below_size (by repeat (first | (with_reducible first | exact HB.out | apply below_alloc | apply pw_below_drewN | apply below_drew1) | exact HB.out)))); (case aL => have := LMc19.out; omega); intro v120 w23 ho hb hg hat; rw [← Ny119.out] at ho; have n0_ := Aside0.mk (hb); have n1_ := Aside0.mk (Kd.H_grown (Kd.H_widen (by repeat (first | exact HH22.out | refine Kd.H_alloc ?_ _ | refine Kd.H_drewN ?_ _ | refine Kd.H_drew ?_))) hg (fun k_ e_ => .inl (UU22.out.1 k_ e_))); have n2_ := Aside0.mk (ho); clear HB; clear HH22; clear HO_3; clear UU22; clear HL117_0; clear HL118_0; have HB := n0_; have HH22 := n1_; have HO121 := n2_; clear n0_ n1_ n2_; clear ho hb hg hat; have p20 : 0 ≤ ((rd (rd_L1 l0 x14_1) x21_2) : Int) := of_decide_eq_true (by first | (with_reducible assumption) | assumption); have q20 : ((rd (rd_L1 l0 x14_1) x21_2) : Int) < ((x3_2.length : Int) : Int) := of_decide_eq_true (by first | (with_reducible assumption) | assumption); replace p20 := eq_true p20; replace q20 := eq_true q20; obtain ⟨Ao26, co26, eo26⟩ := Kd.R_slice HO121.out; subst eo26; obtain ⟨_, _, hraw24, _, _, hcc24, _⟩ := Kd.H_raw HH22.out (of_decide_eq_true (by first | (with_reducible assumption) | assumption)) (by have h_ : ((rd (rd_L1 l0 x14_1) x21_2) : Int) < ((x3_2.length : Int) : Int) := of_decide_eq_true (by first | (with_reducible assumption) | assumption); first | exact h_ | (have e_ := (HN22.out); omega) | simpa using h_); obtain ⟨_, hfr24⟩ := Kd.H_at HH22.out (of_decide_eq_true (by first | (with_reducible assumption) | assumption)) (by have h_ : ((rd (rd_L1 l0 x14_1) x21_2) : Int) < ((x3_2.length : Int) : Int) := of_decide_eq_true (by first | (with_reducible assumption) | assumption); first | exact h_ | (have e_ := (HN22.out); omega) | simpa using h_); have hx24_0 := hcc24 0 _ rfl; have hf24_0 := hfr24 0; (try simp only [Nat.add_zero] at hx24_0 hf24_0); (try rw [show ((Kd.slice 3 (Kd.int .i64))).sz = 1 from rfl, Nat.mul_one] at hx24_0); (try rw [show ((Kd.slice 3 (Kd.int .i64))).sz = 1 from rfl, Nat.mul_one] at hf24_0); have HP24 := Kd.S_seg0 HH22.out (of_decide_eq_true (by first | (with_reducible assumption) | assumption)) (by have h_ : ((rd (rd_L1 l0 x14_1) x21_2) : Int) < ((x3_2.length : Int) : Int) := of_decide_eq_true (by first | (with_reducible assumption) | assumption); first | exact h_ | (have e_ := (HN22.out); omega) | simpa using h_) (seg := [.slice Ao26 y119.length co26]) (j := 0) (show 1 ≤ 1 from by decide) (x' := y119) (Kd.M_row HO121.out) (fun _ hk => hk); (try simp only [show ((Kd.slice 3 (Kd.int .i64))).sz = 1 from rfl, Nat.mul_one, Nat.add_zero] at HP24); clear hcc24 hfr24) | ((with_reducible refine gate_store (t := 31) (p := 61) rfl ?_); refine store_event (t := 31) (p := 61) (v := ?vo_w25) (w1 := (w23.setCell ⟨go22, ((rd (rd_L1 l0 x14_1) x21_2) : Int).toNat, none⟩ (.slice Ao26 y119.length co26))) ?hg ?ho ?hn ?hr ?_; (case ho => rfl); (case hg => rfl); (case hn => rfl); (case hr => first | (go_simp; done) | (go_simp; rfl)); intro w25 hw; have hg : w23.grownBy w25 (some go22) := (by rw [hw]; exact HP24.2); have hp_ : Kd.S (Kd.slice 3 (Kd.int .i64)) 31 w25 w.heap.size (fun _ => True) (.slice (some ⟨go22, 0, none⟩) x3_2.length co21) y122 := (by rw [hw, Ny122.out]; exact HP24.1); clear HP24; have n0_ := Aside0.mk ((by rw [hw]; exact below_set HB.out GB22.out : Below w.heap.size w w25)); have n1_ := Aside0.mk (hp_); clear HB; clear HO121; clear HH22; have HB := n0_; have HO_3 := n1_; clear n0_ n1_; clear hg hw hp_ hraw24))
 go_roundg kj11
 case measure => have := HK1.out; have := HK2.out; have := HJ11.out; omega
 case rel => exact ⟨(y122), (wrap64 (x21_2 + 1)), (by first | rfl | (simp; done) | (simp [*]; done)), H', ⟨by have := HK1.out; have := HK2.out; have := HJ11.out; omega⟩, ⟨by (with_reducible repeat (first | apply Kd.S_alloc | apply Kd.S_drewN | apply Kd.S_drew)); exact HO_3.out⟩, ⟨by repeat (first | (with_reducible first | exact HB.out | apply below_alloc | apply pw_below_drewN | apply below_drew1) | exact HB.out)⟩⟩
 }
 {
 rw [if_neg c19] at H
 exact absurd H (by simp)
 }
 }
 {
 rw [if_neg c18] at H
 have c18b0 : (((rd_L1 x3_2 (rd (rd_L1 l0 x14_1) x21_2)).length : Int) == 0) = false := beq_eq_false_iff_ne.mpr c18
 have c18b1 : (((rd_L1 x3_2 (rd (rd_L1 l0 x14_1) x21_2)).length : Int) != 0) = true := bne_iff_ne.mpr c18
 have c18b2 : ¬ ((rd_L1 x3_2 (rd (rd_L1 l0 x14_1) x21_2)) = []) := fun h_ => c18 (by rw [h_]; rfl)
 obtain ⟨ji27, hji27⟩ : ∃ j_ : Int, (wrap64 (((rd_L1 x3_2 (rd (rd_L1 l0 x14_1) x21_2)).length : Int) - 1)) = j_ := ⟨_, rfl⟩
 replace H : (if 0 ≤ (ji27) then (if (ji27) < ((rd_L1 x3_2 (rd (rd_L1 l0 x14_1) x21_2)).length : Int) then (if (rd (rd_L1 x3_2 (rd (rd_L1 l0 x14_1) x21_2)) (ji27)) = x14_1 then (cfg_Preds.l1 kj11 x3_2 x14_1 l0 (l0.length : Int) x14_1 (rd_L1 l0 x14_1) ((rd_L1 l0 x14_1).length : Int) (wrap64 (x21_2 + 1))) else (if (rd_L1 x3_2 (rd (rd_L1 l0 x14_1) x21_2)).length < 17592186044416 then (cfg_Preds.l1 kj11 (x3_2.set ((rd (rd_L1 l0 x14_1) x21_2) : Int).toNat ((rd_L1 x3_2 (rd (rd_L1 l0 x14_1) x21_2)) ++ [x14_1])) x14_1 l0 (l0.length : Int) x14_1 (rd_L1 l0 x14_1) ((rd_L1 l0 x14_1).length : Int) (wrap64 (x21_2 + 1))) else (none))) else (none)) else (none)) = some r := by first | (rw [hji27] at H; exact H) | (simp only [hji27] at H ⊢; exact H)
 have hji27w : (IntKind.i64.wrap (((rd_L1 x3_2 (rd (rd_L1 l0 x14_1) x21_2)).length : Int) - 1)) = ji27 := (i64_w _).trans hji27
 by_cases c28 : 0 ≤ (ji27)
 {
 rw [if_pos c28] at H
 have c28b0 : decide (0 ≤ (ji27)) = true := decide_eq_true c28
 clear c28
 by_cases c29 : (ji27) < ((rd_L1 x3_2 (rd (rd_L1 l0 x14_1) x21_2)).length : Int)
 {
 rw [if_pos c29] at H
 have c29b0 : decide ((ji27) < ((rd_L1 x3_2 (rd (rd_L1 l0 x14_1) x21_2)).length : Int)) = true := decide_eq_true c29
 clear c29
 by_cases c30 : (rd (rd_L1 x3_2 (rd (rd_L1 l0 x14_1) x21_2)) (ji27)) = x14_1
 {
 rw [if_pos c30] at H
 have c30b0 : ((rd (rd_L1 x3_2 (rd (rd_L1 l0 x14_1) x21_2)) (ji27)) == x14_1) = true := beq_iff_eq.mpr c30
 have c30b1 : ((rd (rd_L1 x3_2 (rd (rd_L1 l0 x14_1) x21_2)) (ji27)) != x14_1) = false := bne_eq_false_iff_eq.mpr c30
 clear c30
 have H' := Aside0.mk H
 clear H
 obtain ⟨Ao31, co31, eo31⟩ := Kd.S_slice HO_3.out
 subst eo31
 have p117 : 0 ≤ ((rd (rd_L1 l0 x14_1) x21_2) : Int) := of_decide_eq_true (by first | (with_reducible assumption) | assumption)
 have q117 : (rd (rd_L1 l0 x14_1) x21_2) < (x3_2.length : Int) := of_decide_eq_true (by first | (with_reducible assumption) | assumption)
 obtain ⟨ad117, A117_0, c117_0, e117, hx117_0, hl117_0, hi117_0⟩ := at_L1 (Kd.S_reads' HO_3.out).2.2 (rd (rd_L1 l0 x14_1) x21_2) p117 q117
 cases e117
 obtain ⟨ce117, hce117, hMe117, hcc117⟩ := Kd.S_get HO_3.out [] (rd (rd_L1 l0 x14_1) x21_2) p117 (by first | exact q117 | exact of_decide_eq_true (by first | (with_reducible assumption) | assumption) | (have e_ := (Kd.S_reads' HO_3.out).1; omega))
 obtain ⟨ve117_0, rfl, ge117_0⟩ := hMe117
 have hv117_0 := hcc117 0 _ rfl
 rw [Nat.add_zero, show ((Kd.slice 3 (Kd.int .i64))).sz = 1 from rfl, Nat.mul_one] at hv117_0
 replace hv117_0 := Option.some.inj (hv117_0.symm.trans hx117_0)
 rw [hv117_0] at ge117_0
 have HL117_0 := Aside0.mk (show Kd.R (Kd.int .i64) 3 _ _ _ _ (rd_L1 x3_2 (rd (rd_L1 l0 x14_1) x21_2)) from ge117_0)
 clear hv117_0 ge117_0
 have HX117_0 := Aside0.mk hx117_0
 clear hcc117 hce117
 have HR117_0 := Aside0.mk hi117_0
 have HC117_0 := Aside0.mk hl117_0
 clear hi117_0 hl117_0
 replace p117 := eq_true p117
 replace q117 := eq_true q117
 have p123 : 0 ≤ ((rd (rd_L1 l0 x14_1) x21_2) : Int) := of_decide_eq_true (by first | (with_reducible assumption) | assumption)
 have q123 : (rd (rd_L1 l0 x14_1) x21_2) < (x3_2.length : Int) := of_decide_eq_true (by first | (with_reducible assumption) | assumption)
 obtain ⟨ad123, A123_0, c123_0, e123, hx123_0, hl123_0, hi123_0⟩ := at_L1 (Kd.S_reads' HO_3.out).2.2 (rd (rd_L1 l0 x14_1) x21_2) p123 q123
 obtain rfl : ad117 = ad123 := (by injection e123)
 obtain ⟨ce123, hce123, hMe123, hcc123⟩ := Kd.S_get HO_3.out [] (rd (rd_L1 l0 x14_1) x21_2) p123 (by first | exact q123 | exact of_decide_eq_true (by first | (with_reducible assumption) | assumption) | (have e_ := (Kd.S_reads' HO_3.out).1; omega))
 obtain ⟨ve123_0, rfl, ge123_0⟩ := hMe123
 have hv123_0 := hcc123 0 _ rfl
 rw [Nat.add_zero, show ((Kd.slice 3 (Kd.int .i64))).sz = 1 from rfl, Nat.mul_one] at hv123_0
 replace hv123_0 := Option.some.inj (hv123_0.symm.trans hx123_0)
 rw [hv123_0] at ge123_0
 have HL123_0 := Aside0.mk (show Kd.R (Kd.int .i64) 3 _ _ _ _ (rd_L1 x3_2 (rd (rd_L1 l0 x14_1) x21_2)) from ge123_0)
 clear hv123_0 ge123_0
 have HX123_0 := Aside0.mk hx123_0
 clear hcc123 hce123
 have HR123_0 := Aside0.mk hi123_0
 have HC123_0 := Aside0.mk hl123_0
 clear hi123_0 hl123_0
 replace p123 := eq_true p123
 replace q123 := eq_true q123
 have ea_ := Option.some.inj (hx117_0.symm.trans hx123_0)
 injection ea_ with ea_ en_ ec_
 subst ea_
 subst ec_
 clear en_
 have p124 : 0 ≤ ((ji27) : Int) := of_decide_eq_true (by first | (with_reducible assumption) | assumption)
 have q124 : (ji27) < ((rd_L1 x3_2 (rd (rd_L1 l0 x14_1) x21_2)).length : Int) := of_decide_eq_true (by first | (with_reducible assumption) | assumption)
 obtain ⟨ad124, e124, hx124_0⟩ := Kd.at_int (by repeat (first | (with_reducible exact HR123_0.out) | (with_reducible refine Kd.C_alloc ?_ _) | (with_reducible refine Kd.C_drewN ?_ _) | (with_reducible refine Kd.C_drew ?_) | exact HR123_0.out)) (ji27) p124 q124
 cases e124
 replace p124 := eq_true p124
 replace q124 := eq_true q124
 go_wp2
 go_roundg kj11
 case measure => have := HK1.out; have := HK2.out; have := HJ11.out; omega
 case rel => exact ⟨(x3_2), (wrap64 (x21_2 + 1)), (by first | rfl | (simp; done) | (simp [*]; done)), H', ⟨by have := HK1.out; have := HK2.out; have := HJ11.out; omega⟩, ⟨by (with_reducible repeat (first | apply Kd.S_alloc | apply Kd.S_drewN | apply Kd.S_drew)); exact HO_3.out⟩, ⟨by repeat (first | (with_reducible first | exact HB.out | apply below_alloc | apply pw_below_drewN | apply below_drew1) | exact HB.out)⟩⟩
 }
 {
 rw [if_neg c30] at H
 have c30b0 : ((rd (rd_L1 x3_2 (rd (rd_L1 l0 x14_1) x21_2)) (ji27)) == x14_1) = false := beq_eq_false_iff_ne.mpr c30
 have c30b1 : ((rd (rd_L1 x3_2 (rd (rd_L1 l0 x14_1) x21_2)) (ji27)) != x14_1) = true := bne_iff_ne.mpr c30
 by_cases c32 : (rd_L1 x3_2 (rd (rd_L1 l0 x14_1) x21_2)).length < 17592186044416
 {
 rw [if_pos c32] at H
 have LMc32 := Aside0.mk c32
 clear c32
 obtain ⟨y126, hy126⟩ : ∃ y_ : List Int, y_ = ((rd_L1 x3_2 (rd (rd_L1 l0 x14_1) x21_2)) ++ [x14_1]) := ⟨_, rfl⟩
 replace H : (cfg_Preds.l1 kj11 (x3_2.set ((rd (rd_L1 l0 x14_1) x21_2) : Int).toNat y126) x14_1 l0 (l0.length : Int) x14_1 (rd_L1 l0 x14_1) ((rd_L1 l0 x14_1).length : Int) (wrap64 (x21_2 + 1))) = some r := by first | (rw [hy126]; with_reducible exact H) | (have H2_ := (Option.bind_some _ _).symm.trans H; rw [hy126]; with_reducible exact H2_) | (have H2_ := (Option.bind_some _ _).symm.trans H; with_reducible exact H2_) | with_reducible exact H | (rw [hy126]; exact H) | exact H
 have Ny126 := Aside0.mk hy126
 clear hy126
 obtain ⟨y129, hy129⟩ : ∃ y_ : List (List Int), y_ = (x3_2.set ((rd (rd_L1 l0 x14_1) x21_2) : Int).toNat y126) := ⟨_, rfl⟩
 replace H : (cfg_Preds.l1 kj11 y129 x14_1 l0 (l0.length : Int) x14_1 (rd_L1 l0 x14_1) ((rd_L1 l0 x14_1).length : Int) (wrap64 (x21_2 + 1))) = some r := by first | (rw [hy129]; with_reducible exact H) | (have H2_ := (Option.bind_some _ _).symm.trans H; rw [hy129]; with_reducible exact H2_) | (have H2_ := (Option.bind_some _ _).symm.trans H; with_reducible exact H2_) | with_reducible exact H | (rw [hy129]; exact H) | exact H
 have Ny129 := Aside0.mk hy129
 clear hy129
 have H' := Aside0.mk H
 clear H
 obtain ⟨Ao34, co34, eo34⟩ := Kd.S_slice HO_3.out
 subst eo34
 have p117 : 0 ≤ ((rd (rd_L1 l0 x14_1) x21_2) : Int) := of_decide_eq_true (by first | (with_reducible assumption) | assumption)
 have q117 : (rd (rd_L1 l0 x14_1) x21_2) < (x3_2.length : Int) := of_decide_eq_true (by first | (with_reducible assumption) | assumption)
 obtain ⟨ad117, A117_0, c117_0, e117, hx117_0, hl117_0, hi117_0⟩ := at_L1 (Kd.S_reads' HO_3.out).2.2 (rd (rd_L1 l0 x14_1) x21_2) p117 q117
 cases e117
 obtain ⟨ce117, hce117, hMe117, hcc117⟩ := Kd.S_get HO_3.out [] (rd (rd_L1 l0 x14_1) x21_2) p117 (by first | exact q117 | exact of_decide_eq_true (by first | (with_reducible assumption) | assumption) | (have e_ := (Kd.S_reads' HO_3.out).1; omega))
 obtain ⟨ve117_0, rfl, ge117_0⟩ := hMe117
 have hv117_0 := hcc117 0 _ rfl
 rw [Nat.add_zero, show ((Kd.slice 3 (Kd.int .i64))).sz = 1 from rfl, Nat.mul_one] at hv117_0
 replace hv117_0 := Option.some.inj (hv117_0.symm.trans hx117_0)
 rw [hv117_0] at ge117_0
 have HL117_0 := Aside0.mk (show Kd.R (Kd.int .i64) 3 _ _ _ _ (rd_L1 x3_2 (rd (rd_L1 l0 x14_1) x21_2)) from ge117_0)
 clear hv117_0 ge117_0
 have HX117_0 := Aside0.mk hx117_0
 clear hcc117 hce117
 have HR117_0 := Aside0.mk hi117_0
 have HC117_0 := Aside0.mk hl117_0
 clear hi117_0 hl117_0
 replace p117 := eq_true p117
 replace q117 := eq_true q117
 have p123 : 0 ≤ ((rd (rd_L1 l0 x14_1) x21_2) : Int) := of_decide_eq_true (by first | (with_reducible assumption) | assumption)
 have q123 : (rd (rd_L1 l0 x14_1) x21_2) < (x3_2.length : Int) := of_decide_eq_true (by first | (with_reducible assumption) | assumption)
 obtain ⟨ad123, A123_0, c123_0, e123, hx123_0, hl123_0, hi123_0⟩ := at_L1 (Kd.S_reads' HO_3.out).2.2 (rd (rd_L1 l0 x14_1) x21_2) p123 q123
 obtain rfl : ad117 = ad123 := (by injection e123)
 obtain ⟨ce123, hce123, hMe123, hcc123⟩ := Kd.S_get HO_3.out [] (rd (rd_L1 l0 x14_1) x21_2) p123 (by first | exact q123 | exact of_decide_eq_true (by first | (with_reducible assumption) | assumption) | (have e_ := (Kd.S_reads' HO_3.out).1; omega))
 obtain ⟨ve123_0, rfl, ge123_0⟩ := hMe123
 have hv123_0 := hcc123 0 _ rfl
 rw [Nat.add_zero, show ((Kd.slice 3 (Kd.int .i64))).sz = 1 from rfl, Nat.mul_one] at hv123_0
 replace hv123_0 := Option.some.inj (hv123_0.symm.trans hx123_0)
 rw [hv123_0] at ge123_0
 have HL123_0 := Aside0.mk (show Kd.R (Kd.int .i64) 3 _ _ _ _ (rd_L1 x3_2 (rd (rd_L1 l0 x14_1) x21_2)) from ge123_0)
 clear hv123_0 ge123_0
 have HX123_0 := Aside0.mk hx123_0
 clear hcc123 hce123
 have HR123_0 := Aside0.mk hi123_0
 have HC123_0 := Aside0.mk hl123_0
 clear hi123_0 hl123_0
 replace p123 := eq_true p123
 replace q123 := eq_true q123
 have ea_ := Option.some.inj (hx117_0.symm.trans hx123_0)
 injection ea_ with ea_ en_ ec_
 subst ea_
 subst ec_
 clear en_
 have p124 : 0 ≤ ((ji27) : Int) := of_decide_eq_true (by first | (with_reducible assumption) | assumption)
 have q124 : (ji27) < ((rd_L1 x3_2 (rd (rd_L1 l0 x14_1) x21_2)).length : Int) := of_decide_eq_true (by first | (with_reducible assumption) | assumption)
 obtain ⟨ad124, e124, hx124_0⟩ := Kd.at_int (by repeat (first | (with_reducible exact HR123_0.out) | (with_reducible refine Kd.C_alloc ?_ _) | (with_reducible refine Kd.C_drewN ?_ _) | (with_reducible refine Kd.C_drew ?_) | exact HR123_0.out)) (ji27) p124 q124
 cases e124
 replace p124 := eq_true p124
 replace q124 := eq_true q124
 have p125 : 0 ≤ ((rd (rd_L1 l0 x14_1) x21_2) : Int) := of_decide_eq_true (by first | (with_reducible assumption) | assumption)
 have q125 : (rd (rd_L1 l0 x14_1) x21_2) < (x3_2.length : Int) := of_decide_eq_true (by first | (with_reducible assumption) | assumption)
 obtain ⟨ad125, A125_0, c125_0, e125, hx125_0, hl125_0, hi125_0⟩ := at_L1 (Kd.S_reads' HO_3.out).2.2 (rd (rd_L1 l0 x14_1) x21_2) p125 q125
 obtain rfl : ad117 = ad125 := (by injection e125)
 obtain ⟨ce125, hce125, hMe125, hcc125⟩ := Kd.S_get HO_3.out [] (rd (rd_L1 l0 x14_1) x21_2) p125 (by first | exact q125 | exact of_decide_eq_true (by first | (with_reducible assumption) | assumption) | (have e_ := (Kd.S_reads' HO_3.out).1; omega))
 obtain ⟨ve125_0, rfl, ge125_0⟩ := hMe125
 have hv125_0 := hcc125 0 _ rfl
 rw [Nat.add_zero, show ((Kd.slice 3 (Kd.int .i64))).sz = 1 from rfl, Nat.mul_one] at hv125_0
 replace hv125_0 := Option.some.inj (hv125_0.symm.trans hx125_0)
 rw [hv125_0] at ge125_0
 have HL125_0 := Aside0.mk (show Kd.R (Kd.int .i64) 3 _ _ _ _ (rd_L1 x3_2 (rd (rd_L1 l0 x14_1) x21_2)) from ge125_0)
 clear hv125_0 ge125_0
 have HX125_0 := Aside0.mk hx125_0
 clear hcc125 hce125
 have HR125_0 := Aside0.mk hi125_0
 have HC125_0 := Aside0.mk hl125_0
 clear hi125_0 hl125_0
 replace p125 := eq_true p125
 replace q125 := eq_true q125
 have ea_ := Option.some.inj (hx117_0.symm.trans hx125_0)
 injection ea_ with ea_ en_ ec_
 subst ea_
 subst ec_
 clear en_
 obtain ⟨go35, co35, eo35, gb35, gl35, cl35, HG35⟩ := Kd.S_form HO_3.out (by have h_ : ((rd (rd_L1 l0 x14_1) x21_2) : Int) < ((x3_2.length : Int) : Int) := of_decide_eq_true (by first | (with_reducible assumption) | assumption); have h2_ : 0 ≤ ((rd (rd_L1 l0 x14_1) x21_2) : Int) := (of_decide_eq_true (by first | (with_reducible assumption) | assumption)); omega)
 (first | cases eo35 | (injection eo35 with ea_ en_ ec_; (first | subst ea_ | (injection ea_ with ea_; subst ea_)); subst ec_; clear en_))
 have GB35 := Aside0.mk gb35
 have GG35 := Aside0.mk HG35
 clear gb35 gl35 HG35
 (first | simp only [add_plain] at hx117_0 | skip)
 (first | simp only [add_plain] at hx123_0 | skip)
 (first | simp only [add_plain] at hx125_0 | skip)
 obtain ⟨oki35, ce35, hcl35, hM35, hcc35, _, _, hH35⟩ := Kd.S_elem HO_3.out [] ((rd (rd_L1 l0 x14_1) x21_2) : Int) (of_decide_eq_true (by first | (with_reducible assumption) | assumption)) (by have h_ : ((rd (rd_L1 l0 x14_1) x21_2) : Int) < ((x3_2.length : Int) : Int) := of_decide_eq_true (by first | (with_reducible assumption) | assumption); first | exact h_ | (have e_ := (Kd.S_reads' HO_3.out).1; omega) | simpa using h_)
 obtain ⟨ve35_0, rfl, ge35_0⟩ := hM35
 have hv35 := hcc35 0 _ rfl
 have hX35 := HX125_0.out
 (try simp only [add_plain] at hX35)
 (try simp only [Nat.add_zero] at hv35)
 (try rw [show ((Kd.slice 3 (Kd.int .i64))).sz = 1 from rfl, Nat.mul_one] at hv35)
 replace hv35 := Option.some.inj (hv35.symm.trans hX35)
 subst hv35
 clear hX35 hcc35 hcl35
 have UU35 := Aside0.mk (show Kd.R (Kd.int .i64) 3 _ w.heap.size oki35 (.slice (some ad124) (rd_L1 x3_2 (rd (rd_L1 l0 x14_1) x21_2)).length c117_0) (rd_L1 x3_2 (rd (rd_L1 l0 x14_1) x21_2)) from ge35_0)
 have HH35 := Aside0.mk hH35
 have HN35 := Aside0.mk (Kd.S_reads' HO_3.out).1
 clear hH35 ge35_0
 go_wp2_with (first | ((with_reducible refine gate_builtin (b := .append) (xs := #[.tmp 57, .tmp 59]) rfl ?_); (try (refine gate_guard (by rfl) ?_; dsimp only)); at_builtin; refine Kd.R_append (Kd.int .i64) (w0 := w) w.heap.size rfl (.tmp 57) (.tmp 59) 31 3 (.int .i64 0) 8 rfl Tryd.underlying31 info3 rfl (by decide) (by omega) (.slice (some ad124) (rd_L1 x3_2 (rd (rd_L1 l0 x14_1) x21_2)).length c117_0) (rd_L1 x3_2 (rd (rd_L1 l0 x14_1) x21_2)) x14_1 [.int .i64 x14_1] (fun k_ => oki35 k_ ∨ ((fun _ => True)) k_ ∧ wc.heap.size ≤ k_) (fun _ => False) rfl rfl ?aP (fun _ hk => hk.elim) ?aF ?aO ?aB ?aS ?aL ?_; (case aP => exact rfl); (case aB => exact (by repeat (first | (with_reducible first | exact HB.out | apply below_alloc | apply pw_below_drewN | apply below_drew1) | exact HB.out))); (case aF => exact (fun k_ hk => .inr ⟨trivial, hk⟩)); (case aO => exact (by (with_reducible repeat (first | apply Kd.R_alloc | apply Kd.R_drewN | apply Kd.R_drew)); exact Kd.R_mono UU35.out (fun _ hk => .inl hk))); (case aS => exact (below_size (by repeat (first | (with_reducible first | exact HB.out | apply below_alloc | apply pw_below_drewN | apply below_drew1) | exact HB.out)))); (case aL => have := LMc32.out; omega); intro v127 w36 ho hb hg hat; rw [← Ny126.out] at ho; have n0_ := Aside0.mk (hb); have n1_ := Aside0.mk (Kd.H_grown (Kd.H_widen (by repeat (first | exact HH35.out | refine Kd.H_alloc ?_ _ | refine Kd.H_drewN ?_ _ | refine Kd.H_drew ?_))) hg (fun k_ e_ => .inl (UU35.out.1 k_ e_))); have n2_ := Aside0.mk (ho); clear HB; clear HH35; clear HO_3; clear UU35; clear HL117_0; clear HL123_0; clear HL125_0; have HB := n0_; have HH35 := n1_; have HO128 := n2_; clear n0_ n1_ n2_; clear ho hb hg hat; have p33 : 0 ≤ ((rd (rd_L1 l0 x14_1) x21_2) : Int) := of_decide_eq_true (by first | (with_reducible assumption) | assumption); have q33 : ((rd (rd_L1 l0 x14_1) x21_2) : Int) < ((x3_2.length : Int) : Int) := of_decide_eq_true (by first | (with_reducible assumption) | assumption); replace p33 := eq_true p33; replace q33 := eq_true q33; obtain ⟨Ao39, co39, eo39⟩ := Kd.R_slice HO128.out; subst eo39; obtain ⟨_, _, hraw37, _, _, hcc37, _⟩ := Kd.H_raw HH35.out (of_decide_eq_true (by first | (with_reducible assumption) | assumption)) (by have h_ : ((rd (rd_L1 l0 x14_1) x21_2) : Int) < ((x3_2.length : Int) : Int) := of_decide_eq_true (by first | (with_reducible assumption) | assumption); first | exact h_ | (have e_ := (HN35.out); omega) | simpa using h_); obtain ⟨_, hfr37⟩ := Kd.H_at HH35.out (of_decide_eq_true (by first | (with_reducible assumption) | assumption)) (by have h_ : ((rd (rd_L1 l0 x14_1) x21_2) : Int) < ((x3_2.length : Int) : Int) := of_decide_eq_true (by first | (with_reducible assumption) | assumption); first | exact h_ | (have e_ := (HN35.out); omega) | simpa using h_); have hx37_0 := hcc37 0 _ rfl; have hf37_0 := hfr37 0; (try simp only [Nat.add_zero] at hx37_0 hf37_0); (try rw [show ((Kd.slice 3 (Kd.int .i64))).sz = 1 from rfl, Nat.mul_one] at hx37_0); (try rw [show ((Kd.slice 3 (Kd.int .i64))).sz = 1 from rfl, Nat.mul_one] at hf37_0); have HP37 := Kd.S_seg0 HH35.out (of_decide_eq_true (by first | (with_reducible assumption) | assumption)) (by have h_ : ((rd (rd_L1 l0 x14_1) x21_2) : Int) < ((x3_2.length : Int) : Int) := of_decide_eq_true (by first | (with_reducible assumption) | assumption); first | exact h_ | (have e_ := (HN35.out); omega) | simpa using h_) (seg := [.slice Ao39 y126.length co39]) (j := 0) (show 1 ≤ 1 from by decide) (x' := y126) (Kd.M_row HO128.out) (fun _ hk => hk); (try simp only [show ((Kd.slice 3 (Kd.int .i64))).sz = 1 from rfl, Nat.mul_one, Nat.add_zero] at HP37); clear hcc37 hfr37) | ((with_reducible refine gate_store (t := 31) (p := 61) rfl ?_); refine store_event (t := 31) (p := 61) (v := ?vo_w38) (w1 := (w36.setCell ⟨go35, ((rd (rd_L1 l0 x14_1) x21_2) : Int).toNat, none⟩ (.slice Ao39 y126.length co39))) ?hg ?ho ?hn ?hr ?_; (case ho => rfl); (case hg => rfl); (case hn => rfl); (case hr => first | (go_simp; done) | (go_simp; rfl)); intro w38 hw; have hg : w36.grownBy w38 (some go35) := (by rw [hw]; exact HP37.2); have hp_ : Kd.S (Kd.slice 3 (Kd.int .i64)) 31 w38 w.heap.size (fun _ => True) (.slice (some ⟨go35, 0, none⟩) x3_2.length co34) y129 := (by rw [hw, Ny129.out]; exact HP37.1); clear HP37; have n0_ := Aside0.mk ((by rw [hw]; exact below_set HB.out GB35.out : Below w.heap.size w w38)); have n1_ := Aside0.mk (hp_); clear HB; clear HO128; clear HH35; have HB := n0_; have HO_3 := n1_; clear n0_ n1_; clear hg hw hp_ hraw37))
 go_roundg kj11
 case measure => have := HK1.out; have := HK2.out; have := HJ11.out; omega
 case rel => exact ⟨(y129), (wrap64 (x21_2 + 1)), (by first | rfl | (simp; done) | (simp [*]; done)), H', ⟨by have := HK1.out; have := HK2.out; have := HJ11.out; omega⟩, ⟨by (with_reducible repeat (first | apply Kd.S_alloc | apply Kd.S_drewN | apply Kd.S_drew)); exact HO_3.out⟩, ⟨by repeat (first | (with_reducible first | exact HB.out | apply below_alloc | apply pw_below_drewN | apply below_drew1) | exact HB.out)⟩⟩
 }
 {
 rw [if_neg c32] at H
 exact absurd H (by simp)
 }
 }
 }
 {
 rw [if_neg c29] at H
 exact absurd H (by simp)
 }
 }
 {
 rw [if_neg c28] at H
 exact absurd H (by simp)
 }
 }
 }
 {
 rw [if_neg c17] at H
 exact absurd H (by simp)
 }
 }
 {
 rw [if_neg c16] at H
 exact absurd H (by simp)
 }
 }
 )
 )
 }
 {
 rw [if_neg c11] at H
 exact absurd H (by simp)
 }
 }
 {
 rw [if_neg c10] at H
 exact absurd H (by simp)
 }
 }
 {
 rw [if_neg c9] at H
 have c9b0 : decide (x21_2 < ((rd_L1 l0 x14_1).length : Int)) = false := decide_eq_false c9
 clear c9
 have H' := Aside0.mk H
 clear H
 go_wp2
 go_roundg k2
 case measure => have := HK1.out; have := HK2.out; omega
 case rel => exact ⟨(x3_2), (wrap64 (x14_1 + 1)), (by first | rfl | (simp; done) | (simp [*]; done)), H', ⟨by have := HK1.out; have := HK2.out; omega⟩, ⟨by (with_reducible repeat (first | apply Kd.S_alloc | apply Kd.S_drewN | apply Kd.S_drew)); exact HO_3.out⟩, ⟨by repeat (first | (with_reducible first | exact HB.out | apply below_alloc | apply pw_below_drewN | apply below_drew1) | exact HB.out)⟩⟩
 }
 )
 )
 }
 {
 rw [if_neg c8] at H
 exact absurd H (by simp)
 }
 }
 {
 rw [if_neg c7] at H
 exact absurd H (by simp)
 }
 }
 {
 rw [if_neg c6] at H
 have c6b0 : decide (x14_1 < (l0.length : Int)) = false := decide_eq_false c6
 clear c6
 obtain rfl := Option.some.inj H
 go_wp2
 go_ret
 exact ⟨_, by first | rfl | (simp [errW_none, errW_some] <;> rfl) | (simp [*, errW_none, errW_some] <;> rfl), by (with_reducible repeat (first | apply Kd.S_alloc | apply Kd.S_drewN | apply Kd.S_drew)); exact HO_3.out, by repeat (first | (with_reducible first | exact HB.out | apply below_alloc | apply pw_below_drewN | apply below_drew1) | exact HB.out)⟩
 }
 )
 )
 }
 {
 rw [if_neg c3] at H
 exact absurd H (by simp)
 }
 }
 {
 rw [if_neg c2] at H
 exact absurd H (by simp)
 }
end Go.Proofs.YtbnkeddnibjncaaDoor.P
