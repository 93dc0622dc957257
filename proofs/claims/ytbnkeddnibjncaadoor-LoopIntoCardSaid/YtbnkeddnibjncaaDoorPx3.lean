-- written by this project's xprint.py (a turn of the kit's printer; its own texts among them)
import Derived.Test.YtbnkeddnibjncaaDoorPx0
namespace Go.Proofs.YtbnkeddnibjncaaDoor.P
open Go.RowKit Go.Proofs.YtbnkeddnibjncaaDoorW.PrintWords Go.Proofs.YtbnkeddnibjncaaDoorW.PrintLast Go.Proofs.YtbnkeddnibjncaaDoorW.PrintMore
attribute [local go_sem] max2_int min2_int max_two min_two max_three min_three max_four min_four   -- for this text's walks alone
attribute [local irreducible] Calls
set_option linter.unusedVariables false
set_option linter.unusedSimpArgs false

/-! ### cfg_Reach: function 22 -/
def cfg_Reach.l0 : Nat → List (List Int) → List Bool → List Int → Option (List Bool)
  | 0, _, _, _ => none
  | k + 1, x0, x3, x4 => if (x4.length : Int) > 0 then (if 0 ≤ (wrap64 ((x4.length : Int) - 1)) then (if (wrap64 ((x4.length : Int) - 1)) < (x4.length : Int) then (if (wrap64 ((x4.length : Int) - 1)) ≤ (x4.length : Int) then ((some (x4.take ((wrap64 ((x4.length : Int) - 1)) : Int).toNat : List Int)).bind fun y137 => (if (rd x4 (wrap64 ((x4.length : Int) - 1))) < 0 then (cfg_Reach.l0 k x0 x3 y137) else (if (rd x4 (wrap64 ((x4.length : Int) - 1))) ≥ (x0.length : Int) then (cfg_Reach.l0 k x0 x3 y137) else (if 0 ≤ (rd x4 (wrap64 ((x4.length : Int) - 1))) then (if (rd x4 (wrap64 ((x4.length : Int) - 1))) < (x3.length : Int) then (if rdOf false x3 (rd x4 (wrap64 ((x4.length : Int) - 1))) = true then (cfg_Reach.l0 k x0 x3 y137) else (if (rd x4 (wrap64 ((x4.length : Int) - 1))) < (x0.length : Int) then (if y137.length + (rd_L1 x0 (rd x4 (wrap64 ((x4.length : Int) - 1)))).length < 17592186044416 then (cfg_Reach.l0 k x0 (x3.set ((rd x4 (wrap64 ((x4.length : Int) - 1))) : Int).toNat true) (y137 ++ (rd_L1 x0 (rd x4 (wrap64 ((x4.length : Int) - 1)))))) else (none)) else (none))) else (none)) else (none))))) else (none)) else (none)) else (none)) else (some x3)
def cfg_Reach.f (k : Nat) (l0 : List (List Int)) : Option (List Bool) := if 0 ≤ (l0.length : Int) then (if ((l0.length : Int) : Int).toNat ≤ 281474976710656 then (cfg_Reach.l0 k l0 (List.replicate ((l0.length : Int) : Int).toNat false) (([0] : List Int))) else (none)) else (none)
theorem cfg_Reach.mono_l : ∀ k, (∀ y0 y1 y2, LeO (cfg_Reach.l0 k y0 y1 y2) (cfg_Reach.l0 (k + 1) y0 y1 y2))
  | 0 => fun _ _ _ r h => by simp [cfg_Reach.l0] at h
  | k + 1 => by
    have ih0 := cfg_Reach.mono_l k
    · intro y0 y1 y2
      unfold cfg_Reach.l0
      repeat' first
      | (with_reducible exact ih0 _ _ _)
      | (with_reducible exact LeO.refl _)
      | (with_reducible exact LeO.none _)
      | (with_reducible refine LeO.ite ?_ ?_)
      | (with_reducible refine LeO.bind ?_ (fun _ => ?_))
      | exact ih0 _ _ _
      | exact LeO.none _
      | refine LeO.ite ?_ ?_
      | refine LeO.bind ?_ (fun _ => ?_)
theorem cfg_Reach.mono : ∀ a0 k, LeO (cfg_Reach.f k a0) (cfg_Reach.f (k + 1) a0) := by
  intro a0 k
  have ih0 := cfg_Reach.mono_l k
  unfold cfg_Reach.f
  repeat' first
      | (with_reducible exact ih0 _ _ _)
      | (with_reducible exact LeO.refl _)
      | (with_reducible exact LeO.none _)
      | (with_reducible refine LeO.ite ?_ ?_)
      | (with_reducible refine LeO.bind ?_ (fun _ => ?_))
      | exact ih0 _ _ _
      | exact LeO.none _
      | refine LeO.ite ?_ ?_
      | refine LeO.bind ?_ (fun _ => ?_)
set_option maxHeartbeats 8000000 in
set_option maxRecDepth 100000 in
theorem cfg_Reach.calls (k : Nat) (A0 : Option Addr) (c0 : Nat) (l0 : List (List Int)) (r : List Bool) (w : World) (hr0 : Kd.C (Kd.slice 3 (Kd.int .i64)) w A0 l0.length l0) (hc0 : l0.length ≤ c0) (h : cfg_Reach.f k l0 = some r) :
    Calls Tryd.prog 22 #[.slice A0 l0.length c0] w fun e w' => ∃ v0_ : Value, e = .returned (v0_) ∧ Kd.R Kd.bool 4 w' w.heap.size (fun _ => True) v0_ r ∧ Below w.heap.size w w' := by
 have HR0 := Aside0.mk hr0
 have HC0 := Aside0.mk hc0
 clear hr0 hc0
 have HB := Aside0.mk (Below.refl w.heap.size w)
 have H : (if 0 ≤ (l0.length : Int) then (if ((l0.length : Int) : Int).toNat ≤ 281474976710656 then (cfg_Reach.l0 k l0 (List.replicate ((l0.length : Int) : Int).toNat false) (([0] : List Int))) else (none)) else (none)) = some r := h
 clear h
 by_cases c2 : 0 ≤ (l0.length : Int)
 {
 rw [if_pos c2] at H
 have c2b0 := eq_true c2
 have c2b1 : decide (0 ≤ (l0.length : Int)) = true := decide_eq_true c2
 clear c2
 by_cases c3 : ((l0.length : Int) : Int).toNat ≤ 281474976710656
 {
 rw [if_pos c3] at H
 have c3b0 := eq_true c3
 have c3b1 : decide (((l0.length : Int) : Int).toNat ≤ 281474976710656) = true := decide_eq_true c3
 clear c3
 obtain ⟨y130, hy130⟩ : ∃ y_ : List Bool, y_ = (List.replicate ((l0.length : Int) : Int).toNat false) := ⟨_, rfl⟩
 replace H : (cfg_Reach.l0 k l0 y130 (([0] : List Int))) = some r := by first | (rw [hy130]; with_reducible exact H) | (have H2_ := (Option.bind_some _ _).symm.trans H; rw [hy130]; with_reducible exact H2_) | (have H2_ := (Option.bind_some _ _).symm.trans H; with_reducible exact H2_) | with_reducible exact H | (rw [hy130]; exact H) | exact H
 have Ny130 := Aside0.mk hy130
 clear hy130
 obtain ⟨y133, hy133⟩ : ∃ y_ : List Int, y_ = (([0] : List Int)) := ⟨_, rfl⟩
 replace H : (cfg_Reach.l0 k l0 y130 y133) = some r := by first | (rw [hy133]; with_reducible exact H) | (have H2_ := (Option.bind_some _ _).symm.trans H; rw [hy133]; with_reducible exact H2_) | (have H2_ := (Option.bind_some _ _).symm.trans H; with_reducible exact H2_) | with_reducible exact H | (rw [hy133]; exact H) | exact H
 have Ny133 := Aside0.mk hy133
 clear hy133
 have H' := Aside0.mk H
 clear H
 go_enter Tryd.func22, Tryd.ntmps22
 go_wp2_with (first | ((with_reducible refine gate_dst (N := 8) rfl ?_); (try (refine gate_guard (by rfl) ?_; dsimp only)); refine Kd.R_make Kd.bool _ 4 rfl (N := 8) rfl 29 _ _ rfl (l0.length : Int) rfl rfl Tryd.underlying29 (.bool false) 1 info4 rfl (by decide) (by omega) false (ok := fun _ => True) (okp := fun _ => True) rfl (fun _ hk => hk) trivial (of_decide_eq_true (by first | (with_reducible assumption) | assumption)) (Nat.le_trans (Nat.mul_le_mul_right _ (of_decide_eq_true (by first | (with_reducible assumption) | assumption) : (l0.length : Int).toNat ≤ 281474976710656)) (by omega)) (Below.refl _ _) (Nat.le_refl _) ?_; intro v131 w4 ho5 hb hg_ hnew_; clear hg_ hnew_; (first | rw [← Ny130.out] at ho5 | (simp only [Int.reduceToNat] at ho5; rw [← Ny130.out] at ho5)); have n0_ := Aside0.mk (Kd.R_lower ho5 (below_size (by repeat (first | (with_reducible first | exact HB.out | apply below_alloc | apply pw_below_drewN | apply below_drew1) | exact HB.out)))); have n1_ := Aside0.mk (below_step (by repeat (first | (with_reducible first | exact HB.out | apply below_alloc | apply pw_below_drewN | apply below_drew1) | exact HB.out)) hb); clear HB; have HO132 := n0_; have HB := n1_; clear n0_ n1_; clear hb ho5) | ((with_reducible refine gate_dst (N := 9) rfl ?_); (try (refine gate_guard (by rfl) ?_; dsimp only)); refine Kd.R_lit (Kd.int .i64) _ 3 ?hg (N := 9) ?hd (xs := ([0] : List Int)) (inner := [.int .i64 0]) (ok := fun _ => True) (okp := fun _ => True) ?hr ?hp (fun _ hk => hk) trivial (Below.refl _ _) (Nat.le_refl _) (by simp) ?_; (case hd => rfl); (case hg => rfl); (case hr => first | (go_simp; done) | (go_simp; rfl)); (case hp => exact (Reps.one (show Kd.M (Kd.int .i64) _ _ _ 0 [.int .i64 0] from rfl) (Reps.none _ _))); intro v134 w6 ho7 hb hg_ hnew_; clear hg_ hnew_; (first | rw [← Ny133.out] at ho7 | (simp only [Int.reduceToNat] at ho7; rw [← Ny133.out] at ho7)); have n0_ := Aside0.mk (Kd.R_below (by (with_reducible repeat (first | apply Kd.R_alloc | apply Kd.R_drewN | apply Kd.R_drew)); exact HO132.out) hb); have n1_ := Aside0.mk (Kd.R_lower ho7 (below_size (by repeat (first | (with_reducible first | exact HB.out | apply below_alloc | apply pw_below_drewN | apply below_drew1) | exact HB.out)))); have n2_ := Aside0.mk (below_step (by repeat (first | (with_reducible first | exact HB.out | apply below_alloc | apply pw_below_drewN | apply below_drew1) | exact HB.out)) hb); clear HO132; clear HB; have HO132 := n0_; have HO135 := n1_; have HB := n2_; clear n0_ n1_ n2_; clear hb ho7))
 go_loopg [4] k (fun kq v4 w' => ∃ (x3_1 : List Bool) (x4_1 : List Int), Aside0 (cfg_Reach.l0 kq l0 x3_1 x4_1 = some r) ∧ Aside0 (kq ≤ k) ∧ Aside0 (Kd.R Kd.bool 4 w' w.heap.size (fun _ => True) v131 x3_1) ∧ Aside0 (Kd.R (Kd.int .i64) 3 w' w.heap.size (fun _ => True) v4 x4_1) ∧ Aside0 (Below w.heap.size w w'))
 case atStart => exact ⟨(y130), (y133), H', ⟨Nat.le_refl _⟩, ⟨by (with_reducible repeat (first | apply Kd.R_alloc | apply Kd.R_drewN | apply Kd.R_drew)); exact HO132.out⟩, ⟨by (with_reducible repeat (first | apply Kd.R_alloc | apply Kd.R_drewN | apply Kd.R_drew)); exact HO135.out⟩, ⟨by repeat (first | (with_reducible first | exact HB.out | apply below_alloc | apply pw_below_drewN | apply below_drew1) | exact HB.out)⟩⟩
 case round => (
 clear H'
 try clear c2
 try clear c2b0
 try clear c2b1
 try clear p2
 try clear c3
 try clear c3b0
 try clear c3b1
 obtain ⟨x3_1, x4_1, HA, HK1, HO_3, HO_4, HB⟩ := hrel
 cases gk with
 | zero => exact absurd HA.out (by simp [cfg_Reach.l0])
 | succ k1 => (
 have H := HA.out
 clear HA
 simp only [cfg_Reach.l0] at H
 by_cases c8 : (x4_1.length : Int) > 0
 {
 rw [if_pos c8] at H
 have c8b0 : decide (0 < (x4_1.length : Int)) = true := decide_eq_true c8
 have c8b1 : decide (0 < x4_1.length) = true := decide_eq_true (by omega)
 clear c8
 obtain ⟨ji9, hji9⟩ : ∃ j_ : Int, (wrap64 ((x4_1.length : Int) - 1)) = j_ := ⟨_, rfl⟩
 replace H : (if 0 ≤ (ji9) then (if (ji9) < (x4_1.length : Int) then (if (ji9) ≤ (x4_1.length : Int) then ((some (x4_1.take ((ji9) : Int).toNat : List Int)).bind fun y137 => (if (rd x4_1 (ji9)) < 0 then (cfg_Reach.l0 k1 l0 x3_1 y137) else (if (rd x4_1 (ji9)) ≥ (l0.length : Int) then (cfg_Reach.l0 k1 l0 x3_1 y137) else (if 0 ≤ (rd x4_1 (ji9)) then (if (rd x4_1 (ji9)) < (x3_1.length : Int) then (if rdOf false x3_1 (rd x4_1 (ji9)) = true then (cfg_Reach.l0 k1 l0 x3_1 y137) else (if (rd x4_1 (ji9)) < (l0.length : Int) then (if y137.length + (rd_L1 l0 (rd x4_1 (ji9))).length < 17592186044416 then (cfg_Reach.l0 k1 l0 (x3_1.set ((rd x4_1 (ji9)) : Int).toNat true) (y137 ++ (rd_L1 l0 (rd x4_1 (ji9))))) else (none)) else (none))) else (none)) else (none))))) else (none)) else (none)) else (none)) = some r := by first | (rw [hji9] at H; exact H) | (simp only [hji9] at H ⊢; exact H)
 have hji9w : (IntKind.i64.wrap ((x4_1.length : Int) - 1)) = ji9 := (i64_w _).trans hji9
 by_cases c10 : 0 ≤ (ji9)
 {
 rw [if_pos c10] at H
 have c10b0 : decide (0 ≤ (ji9)) = true := decide_eq_true c10
 clear c10
 by_cases c11 : (ji9) < (x4_1.length : Int)
 {
 rw [if_pos c11] at H
 have c11b0 : decide ((ji9) < (x4_1.length : Int)) = true := decide_eq_true c11
 clear c11
 by_cases c12 : (ji9) ≤ (x4_1.length : Int)
 {
 rw [if_pos c12] at H
 have c12b0 := eq_true c12
 have c12b1 : decide ((ji9) ≤ (x4_1.length : Int)) = true := decide_eq_true c12
 clear c12
 obtain ⟨y137, hy137⟩ : ∃ y_ : List Int, y_ = (x4_1.take ((ji9) : Int).toNat) := ⟨_, rfl⟩
 replace H : (if (rd x4_1 (ji9)) < 0 then (cfg_Reach.l0 k1 l0 x3_1 y137) else (if (rd x4_1 (ji9)) ≥ (l0.length : Int) then (cfg_Reach.l0 k1 l0 x3_1 y137) else (if 0 ≤ (rd x4_1 (ji9)) then (if (rd x4_1 (ji9)) < (x3_1.length : Int) then (if rdOf false x3_1 (rd x4_1 (ji9)) = true then (cfg_Reach.l0 k1 l0 x3_1 y137) else (if (rd x4_1 (ji9)) < (l0.length : Int) then (if y137.length + (rd_L1 l0 (rd x4_1 (ji9))).length < 17592186044416 then (cfg_Reach.l0 k1 l0 (x3_1.set ((rd x4_1 (ji9)) : Int).toNat true) (y137 ++ (rd_L1 l0 (rd x4_1 (ji9))))) else (none)) else (none))) else (none)) else (none)))) = some r := by first | (rw [hy137]; with_reducible exact H) | (have H2_ := (Option.bind_some _ _).symm.trans H; rw [hy137]; with_reducible exact H2_) | (have H2_ := (Option.bind_some _ _).symm.trans H; with_reducible exact H2_) | with_reducible exact H | (rw [hy137]; exact H) | exact H
 have Ny137 := Aside0.mk hy137
 clear hy137
 by_cases c13 : (rd x4_1 (ji9)) < 0
 {
 rw [if_pos c13] at H
 have c13b0 : decide ((rd x4_1 (ji9)) < 0) = true := decide_eq_true c13
 clear c13
 have H' := Aside0.mk H
 clear H
 obtain ⟨Ao14, co14, eo14⟩ := Kd.R_slice HO_4.out
 subst eo14
 have p136 : 0 ≤ ((ji9) : Int) := of_decide_eq_true (by first | (with_reducible assumption) | assumption)
 have q136 : (ji9) < (x4_1.length : Int) := of_decide_eq_true (by first | (with_reducible assumption) | assumption)
 obtain ⟨ad136, e136, hx136_0⟩ := Kd.at_int (Kd.R_reads' HO_4.out).2.2 (ji9) p136 q136
 cases e136
 replace p136 := eq_true p136
 replace q136 := eq_true q136
 have q15 : ((ji9) : Int) ≤ ((x4_1.length : Int) : Int) := of_decide_eq_true (by first | (with_reducible assumption) | assumption)
 obtain ⟨i015, hi015, _, hsz15, _⟩ := info_parts info3
 have hcut15 := cut_to (P := Tryd.prog) 31 3 .i64 Tryd.underlying31 hi015 (some ad136) x4_1.length co14 (ji9) (of_decide_eq_true (by first | (with_reducible assumption) | assumption)) q15 (Kd.R_reads' HO_4.out).2.1
 have hr15 := Kd.R_take (m := ((ji9) : Int).toNat) HO_4.out (by omega)
 have hy15 : y137.length = ((ji9) : Int).toNat := (by rw [Ny137.out, List.length_take]; omega)
 rw [← Ny137.out] at hr15
 rw [← hy15] at hr15 hcut15
 clear hy15 hi015 hsz15 HO_4
 have HO139 := Aside0.mk hr15
 clear hr15
 replace q15 := eq_true q15
 go_wp2
 go_roundg k1
 case measure => have := HK1.out; omega
 case rel => exact ⟨(x3_1), (y137), H', ⟨by have := HK1.out; omega⟩, ⟨by (with_reducible repeat (first | apply Kd.R_alloc | apply Kd.R_drewN | apply Kd.R_drew)); exact HO_3.out⟩, ⟨by (with_reducible repeat (first | apply Kd.R_alloc | apply Kd.R_drewN | apply Kd.R_drew)); exact HO139.out⟩, ⟨by repeat (first | (with_reducible first | exact HB.out | apply below_alloc | apply pw_below_drewN | apply below_drew1) | exact HB.out)⟩⟩
 }
 {
 rw [if_neg c13] at H
 have c13b0 : decide ((rd x4_1 (ji9)) < 0) = false := decide_eq_false c13
 clear c13
 by_cases c16 : (rd x4_1 (ji9)) ≥ (l0.length : Int)
 {
 rw [if_pos c16] at H
 have c16b0 : decide ((l0.length : Int) ≤ (rd x4_1 (ji9))) = true := decide_eq_true c16
 clear c16
 have H' := Aside0.mk H
 clear H
 obtain ⟨Ao17, co17, eo17⟩ := Kd.R_slice HO_4.out
 subst eo17
 have p136 : 0 ≤ ((ji9) : Int) := of_decide_eq_true (by first | (with_reducible assumption) | assumption)
 have q136 : (ji9) < (x4_1.length : Int) := of_decide_eq_true (by first | (with_reducible assumption) | assumption)
 obtain ⟨ad136, e136, hx136_0⟩ := Kd.at_int (Kd.R_reads' HO_4.out).2.2 (ji9) p136 q136
 cases e136
 replace p136 := eq_true p136
 replace q136 := eq_true q136
 have q18 : ((ji9) : Int) ≤ ((x4_1.length : Int) : Int) := of_decide_eq_true (by first | (with_reducible assumption) | assumption)
 obtain ⟨i018, hi018, _, hsz18, _⟩ := info_parts info3
 have hcut18 := cut_to (P := Tryd.prog) 31 3 .i64 Tryd.underlying31 hi018 (some ad136) x4_1.length co17 (ji9) (of_decide_eq_true (by first | (with_reducible assumption) | assumption)) q18 (Kd.R_reads' HO_4.out).2.1
 have hr18 := Kd.R_take (m := ((ji9) : Int).toNat) HO_4.out (by omega)
 have hy18 : y137.length = ((ji9) : Int).toNat := (by rw [Ny137.out, List.length_take]; omega)
 rw [← Ny137.out] at hr18
 rw [← hy18] at hr18 hcut18
 clear hy18 hi018 hsz18 HO_4
 have HO139 := Aside0.mk hr18
 clear hr18
 replace q18 := eq_true q18
 go_wp2
 go_roundg k1
 case measure => have := HK1.out; omega
 case rel => exact ⟨(x3_1), (y137), H', ⟨by have := HK1.out; omega⟩, ⟨by (with_reducible repeat (first | apply Kd.R_alloc | apply Kd.R_drewN | apply Kd.R_drew)); exact HO_3.out⟩, ⟨by (with_reducible repeat (first | apply Kd.R_alloc | apply Kd.R_drewN | apply Kd.R_drew)); exact HO139.out⟩, ⟨by repeat (first | (with_reducible first | exact HB.out | apply below_alloc | apply pw_below_drewN | apply below_drew1) | exact HB.out)⟩⟩
 }
 {
 rw [if_neg c16] at H
 have c16b0 : decide ((l0.length : Int) ≤ (rd x4_1 (ji9))) = false := decide_eq_false c16
 clear c16
 by_cases c19 : 0 ≤ (rd x4_1 (ji9))
 {
 rw [if_pos c19] at H
 have c19b0 : decide (0 ≤ (rd x4_1 (ji9))) = true := decide_eq_true c19
 clear c19
 by_cases c20 : (rd x4_1 (ji9)) < (x3_1.length : Int)
 {
 rw [if_pos c20] at H
 have c20b0 : decide ((rd x4_1 (ji9)) < (x3_1.length : Int)) = true := decide_eq_true c20
 clear c20
 obtain ⟨bq21, hbq21⟩ : ∃ b_ : Bool, b_ = (rdOf false x3_1 (rd x4_1 (ji9))) := ⟨_, rfl⟩
 replace H : (if bq21 = true then (cfg_Reach.l0 k1 l0 x3_1 y137) else (if (rd x4_1 (ji9)) < (l0.length : Int) then (if y137.length + (rd_L1 l0 (rd x4_1 (ji9))).length < 17592186044416 then (cfg_Reach.l0 k1 l0 (x3_1.set ((rd x4_1 (ji9)) : Int).toNat true) (y137 ++ (rd_L1 l0 (rd x4_1 (ji9))))) else (none)) else (none))) = some r := by rw [← hbq21] at H; exact H
 have Nbq21 := Aside0.mk hbq21
 clear hbq21
 by_cases c22 : bq21 = true
 {
 subst c22
 have H1 : (cfg_Reach.l0 k1 l0 x3_1 y137) = some r := by rw [if_pos rfl] at H; exact H
 clear H
 have H := H1
 clear H1
 have H' := Aside0.mk H
 clear H
 obtain ⟨Ao23, co23, eo23⟩ := Kd.R_slice HO_4.out
 subst eo23
 have p136 : 0 ≤ ((ji9) : Int) := of_decide_eq_true (by first | (with_reducible assumption) | assumption)
 have q136 : (ji9) < (x4_1.length : Int) := of_decide_eq_true (by first | (with_reducible assumption) | assumption)
 obtain ⟨ad136, e136, hx136_0⟩ := Kd.at_int (Kd.R_reads' HO_4.out).2.2 (ji9) p136 q136
 cases e136
 replace p136 := eq_true p136
 replace q136 := eq_true q136
 have q24 : ((ji9) : Int) ≤ ((x4_1.length : Int) : Int) := of_decide_eq_true (by first | (with_reducible assumption) | assumption)
 obtain ⟨i024, hi024, _, hsz24, _⟩ := info_parts info3
 have hcut24 := cut_to (P := Tryd.prog) 31 3 .i64 Tryd.underlying31 hi024 (some ad136) x4_1.length co23 (ji9) (of_decide_eq_true (by first | (with_reducible assumption) | assumption)) q24 (Kd.R_reads' HO_4.out).2.1
 have hr24 := Kd.R_take (m := ((ji9) : Int).toNat) HO_4.out (by omega)
 have hy24 : y137.length = ((ji9) : Int).toNat := (by rw [Ny137.out, List.length_take]; omega)
 rw [← Ny137.out] at hr24
 rw [← hy24] at hr24 hcut24
 clear hy24 hi024 hsz24 HO_4
 have HO139 := Aside0.mk hr24
 clear hr24
 replace q24 := eq_true q24
 obtain ⟨Ao25, co25, eo25⟩ := Kd.R_slice HO_3.out
 subst eo25
 have p140 : 0 ≤ ((rd x4_1 (ji9)) : Int) := of_decide_eq_true (by first | (with_reducible assumption) | assumption)
 have q140 : (rd x4_1 (ji9)) < (x3_1.length : Int) := of_decide_eq_true (by first | (with_reducible assumption) | assumption)
 obtain ⟨ad140, e140, hx140_0⟩ := Kd.at_bool (Kd.R_reads' HO_3.out).2.2 (rd x4_1 (ji9)) p140 q140
 (try rw [← Nbq21.out] at hx140_0)
 cases e140
 replace p140 := eq_true p140
 replace q140 := eq_true q140
 go_wp2
 go_roundg k1
 case measure => have := HK1.out; omega
 case rel => exact ⟨(x3_1), (y137), H', ⟨by have := HK1.out; omega⟩, ⟨by (with_reducible repeat (first | apply Kd.R_alloc | apply Kd.R_drewN | apply Kd.R_drew)); exact HO_3.out⟩, ⟨by (with_reducible repeat (first | apply Kd.R_alloc | apply Kd.R_drewN | apply Kd.R_drew)); exact HO139.out⟩, ⟨by repeat (first | (with_reducible first | exact HB.out | apply below_alloc | apply pw_below_drewN | apply below_drew1) | exact HB.out)⟩⟩
 }
 {
 replace c22 := Bool.eq_false_iff.mpr c22
 subst c22
 have H1 : (if (rd x4_1 (ji9)) < (l0.length : Int) then (if y137.length + (rd_L1 l0 (rd x4_1 (ji9))).length < 17592186044416 then (cfg_Reach.l0 k1 l0 (x3_1.set ((rd x4_1 (ji9)) : Int).toNat true) (y137 ++ (rd_L1 l0 (rd x4_1 (ji9))))) else (none)) else (none)) = some r := by rw [if_neg (show ¬ (false = true) by decide)] at H; exact H
 clear H
 have H := H1
 clear H1
 obtain ⟨y141, hy141⟩ : ∃ y_ : List Bool, y_ = (x3_1.set ((rd x4_1 (ji9)) : Int).toNat true) := ⟨_, rfl⟩
 replace H : (if (rd x4_1 (ji9)) < (l0.length : Int) then (if y137.length + (rd_L1 l0 (rd x4_1 (ji9))).length < 17592186044416 then (cfg_Reach.l0 k1 l0 y141 (y137 ++ (rd_L1 l0 (rd x4_1 (ji9))))) else (none)) else (none)) = some r := by first | (rw [hy141]; with_reducible exact H) | (have H2_ := (Option.bind_some _ _).symm.trans H; rw [hy141]; with_reducible exact H2_) | (have H2_ := (Option.bind_some _ _).symm.trans H; with_reducible exact H2_) | with_reducible exact H | (rw [hy141]; exact H) | exact H
 have Ny141 := Aside0.mk hy141
 clear hy141
 by_cases c27 : (rd x4_1 (ji9)) < (l0.length : Int)
 {
 rw [if_pos c27] at H
 have c27b0 : decide ((rd x4_1 (ji9)) < (l0.length : Int)) = true := decide_eq_true c27
 clear c27
 by_cases c28 : y137.length + (rd_L1 l0 (rd x4_1 (ji9))).length < 17592186044416
 {
 rw [if_pos c28] at H
 have LMc28 := Aside0.mk c28
 clear c28
 obtain ⟨y143, hy143⟩ : ∃ y_ : List Int, y_ = (y137 ++ (rd_L1 l0 (rd x4_1 (ji9)))) := ⟨_, rfl⟩
 replace H : (cfg_Reach.l0 k1 l0 y141 y143) = some r := by first | (rw [hy143]; with_reducible exact H) | (have H2_ := (Option.bind_some _ _).symm.trans H; rw [hy143]; with_reducible exact H2_) | (have H2_ := (Option.bind_some _ _).symm.trans H; with_reducible exact H2_) | with_reducible exact H | (rw [hy143]; exact H) | exact H
 have Ny143 := Aside0.mk hy143
 clear hy143
 have H' := Aside0.mk H
 clear H
 obtain ⟨Ao29, co29, eo29⟩ := Kd.R_slice HO_4.out
 subst eo29
 have p136 : 0 ≤ ((ji9) : Int) := of_decide_eq_true (by first | (with_reducible assumption) | assumption)
 have q136 : (ji9) < (x4_1.length : Int) := of_decide_eq_true (by first | (with_reducible assumption) | assumption)
 obtain ⟨ad136, e136, hx136_0⟩ := Kd.at_int (Kd.R_reads' HO_4.out).2.2 (ji9) p136 q136
 cases e136
 replace p136 := eq_true p136
 replace q136 := eq_true q136
 have q30 : ((ji9) : Int) ≤ ((x4_1.length : Int) : Int) := of_decide_eq_true (by first | (with_reducible assumption) | assumption)
 obtain ⟨i030, hi030, _, hsz30, _⟩ := info_parts info3
 have hcut30 := cut_to (P := Tryd.prog) 31 3 .i64 Tryd.underlying31 hi030 (some ad136) x4_1.length co29 (ji9) (of_decide_eq_true (by first | (with_reducible assumption) | assumption)) q30 (Kd.R_reads' HO_4.out).2.1
 have hr30 := Kd.R_take (m := ((ji9) : Int).toNat) HO_4.out (by omega)
 have hy30 : y137.length = ((ji9) : Int).toNat := (by rw [Ny137.out, List.length_take]; omega)
 rw [← Ny137.out] at hr30
 rw [← hy30] at hr30 hcut30
 clear hy30 hi030 hsz30 HO_4
 have HO139 := Aside0.mk hr30
 clear hr30
 replace q30 := eq_true q30
 obtain ⟨Ao31, co31, eo31⟩ := Kd.R_slice HO_3.out
 subst eo31
 have p140 : 0 ≤ ((rd x4_1 (ji9)) : Int) := of_decide_eq_true (by first | (with_reducible assumption) | assumption)
 have q140 : (rd x4_1 (ji9)) < (x3_1.length : Int) := of_decide_eq_true (by first | (with_reducible assumption) | assumption)
 obtain ⟨ad140, e140, hx140_0⟩ := Kd.at_bool (Kd.R_reads' HO_3.out).2.2 (rd x4_1 (ji9)) p140 q140
 (try rw [← Nbq21.out] at hx140_0)
 cases e140
 replace p140 := eq_true p140
 replace q140 := eq_true q140
 have p26 : 0 ≤ ((rd x4_1 (ji9)) : Int) := of_decide_eq_true (by first | (with_reducible assumption) | assumption)
 have q26 : ((rd x4_1 (ji9)) : Int) < ((x3_1.length : Int) : Int) := of_decide_eq_true (by first | (with_reducible assumption) | assumption)
 obtain ⟨go26, co26, eo26, gb26, gl26, cl26, HG26⟩ := Kd.R_form HO_3.out (by omega)
 (first | cases eo26 | (injection eo26 with ea_ en_ ec_; (first | subst ea_ | (injection ea_ with ea_; subst ea_)); subst ec_; clear en_))
 have GB26 := Aside0.mk gb26
 have GG26 := Aside0.mk HG26
 clear gb26 gl26 HG26
 (first | simp only [add_plain] at hx140_0 | skip)
 obtain ⟨hx26_0, hf26_0⟩ := Kd.R_celln false HO_3.out ((rd x4_1 (ji9)) : Int) p26 q26
 replace p26 := eq_true p26
 replace q26 := eq_true q26
 have HP32 := Kd.R_putg HO_3.out ((rd x4_1 (ji9)) : Int) true
 go_wp2_with (first | ((with_reducible refine gate_store (t := 4) (p := 40) rfl ?_); refine store_event (t := 4) (p := 40) (v := ?vo_w33) (w1 := (wr.setCell ⟨go26, ((rd x4_1 (ji9)) : Int).toNat, none⟩ (.bool true))) ?hg ?ho ?hn ?hr ?_; (case ho => rfl); (case hg => rfl); (case hn => rfl); (case hr => first | (go_simp; done) | (go_simp; rfl)); intro w33 hw; have hg : wr.grownBy w33 (some go26) := (by rw [hw]; exact HP32.2); have hp_ : Kd.R Kd.bool 4 w33 w.heap.size (fun _ => True) (.slice (some ⟨go26, 0, none⟩) x3_1.length co31) y141 := (by rw [hw, Ny141.out]; exact HP32.1); clear HP32; have n0_ := Aside0.mk (hp_); have n1_ := Aside0.mk (Kd.R_over' (v := (.slice (some ⟨go26, 0, none⟩) x3_1.length co31)) (by (with_reducible repeat (first | apply Kd.R_alloc | apply Kd.R_drewN | apply Kd.R_drew)); exact HO139.out) (Kd.R_typed HO_3.out) (by decide) hg); have n2_ := Aside0.mk ((by rw [hw]; exact below_set (HB.out) GB26.out : Below w.heap.size w w33)); clear HO_3; clear HO139; clear HB; have HO_3 := n0_; have HO139 := n1_; have HB := n2_; clear n0_ n1_ n2_; clear hg hw hp_; have p142 : 0 ≤ ((rd x4_1 (ji9)) : Int) := of_decide_eq_true (by first | (with_reducible assumption) | assumption); have q142 : (rd x4_1 (ji9)) < (l0.length : Int) := of_decide_eq_true (by first | (with_reducible assumption) | assumption); obtain ⟨ad142, A142_0, c142_0, e142, hx142_0, hl142_0, hi142_0⟩ := at_L1 HR0.out (rd x4_1 (ji9)) p142 q142; cases e142; replace hx142_0 := (HB.out.cell (World.block_lt_of_cell? w _ hx142_0)).trans hx142_0; have HR142_0 := Aside0.mk hi142_0; have HC142_0 := Aside0.mk hl142_0; clear hi142_0 hl142_0; replace p142 := eq_true p142; replace q142 := eq_true q142) | ((with_reducible refine gate_builtin (b := .append) (xs := #[.tmp 41, .tmp 45]) rfl ?_); (try (refine gate_guard (by rfl) ?_; dsimp only)); at_builtin; refine Kd.R_append_rows (Kd.int .i64) (w0 := w) w.heap.size rfl (.tmp 41) (.tmp 45) 31 3 (.int .i64 0) 8 rfl Tryd.underlying31 info3 rfl (by decide) (by omega) (.slice (some ad136) y137.length co29) y137 (rd_L1 l0 (rd x4_1 (ji9))) _ _ _ (fun _ => True) (fun _ => False) rfl rfl ?aO ?aR (fun _ _ h => h) (fun _ h => h.elim) ?aF ?aB ?aS ?aL ?_; (case aR => repeat (first | exact (Kd.C_below HR142_0.out HB.out) | (with_reducible refine Kd.C_alloc ?_ _) | (with_reducible refine Kd.C_drewN ?_ _) | (with_reducible refine Kd.C_drew ?_))); (case aB => exact (by repeat (first | (with_reducible first | exact HB.out | apply below_alloc | apply pw_below_drewN | apply below_drew1) | exact HB.out))); (case aF => exact (fun _ _ => trivial)); (case aO => exact (by (with_reducible repeat (first | apply Kd.R_alloc | apply Kd.R_drewN | apply Kd.R_drew)); exact HO139.out)); (case aS => exact (below_size (by repeat (first | (with_reducible first | exact HB.out | apply below_alloc | apply pw_below_drewN | apply below_drew1) | exact HB.out)))); (case aL => have := LMc28.out; omega); intro v144 w34 ho hb hg hat; rw [← Ny143.out] at ho; have n0_ := Aside0.mk (Kd.R_over' (by (with_reducible repeat (first | apply Kd.R_alloc | apply Kd.R_drewN | apply Kd.R_drew)); exact HO_3.out) (Kd.R_typed (by (with_reducible repeat (first | apply Kd.R_alloc | apply Kd.R_drewN | apply Kd.R_drew)); exact HO139.out)) (by decide) hg); have n1_ := Aside0.mk (hb); have n2_ := Aside0.mk (ho); clear HO_3; clear HB; clear HO139; have HO_3 := n0_; have HB := n1_; have HO145 := n2_; clear n0_ n1_ n2_; clear ho hb hg hat))
 go_roundg k1
 case measure => have := HK1.out; omega
 case rel => exact ⟨(y141), (y143), H', ⟨by have := HK1.out; omega⟩, ⟨by (with_reducible repeat (first | apply Kd.R_alloc | apply Kd.R_drewN | apply Kd.R_drew)); exact HO_3.out⟩, ⟨by (with_reducible repeat (first | apply Kd.R_alloc | apply Kd.R_drewN | apply Kd.R_drew)); exact HO145.out⟩, ⟨by repeat (first | (with_reducible first | exact HB.out | apply below_alloc | apply pw_below_drewN | apply below_drew1) | exact HB.out)⟩⟩
 }
 {
 rw [if_neg c28] at H
 exact absurd H (by simp)
 }
 }
 {
 rw [if_neg c27] at H
 exact absurd H (by simp)
 }
 }
 }
 {
 rw [if_neg c20] at H
 exact absurd H (by simp)
 }
 }
 {
 rw [if_neg c19] at H
 exact absurd H (by simp)
 }
 }
 }
 }
 {
 rw [if_neg c12] at H
 exact absurd H (by simp)
 }
 }
 {
 rw [if_neg c11] at H
 exact absurd H (by simp)
 }
 }
 {
 rw [if_neg c10] at H
 exact absurd H (by simp)
 }
 }
 {
 rw [if_neg c8] at H
 have c8b0 : decide (0 < (x4_1.length : Int)) = false := decide_eq_false c8
 have c8b1 : decide (0 < x4_1.length) = false := decide_eq_false (by omega)
 clear c8
 obtain rfl := Option.some.inj H
 obtain ⟨Ao35, co35, eo35⟩ := Kd.R_slice HO_4.out
 subst eo35
 go_wp2
 go_ret
 exact ⟨_, by first | rfl | (simp [errW_none, errW_some] <;> rfl) | (simp [*, errW_none, errW_some] <;> rfl), by (with_reducible repeat (first | apply Kd.R_alloc | apply Kd.R_drewN | apply Kd.R_drew)); exact HO_3.out, by repeat (first | (with_reducible first | exact HB.out | apply below_alloc | apply pw_below_drewN | apply below_drew1) | exact HB.out)⟩
 }
 )
 )
 }
 {
 rw [if_neg c3] at H
 exact absurd H (by simp)
 }
 }
 {
 rw [if_neg c2] at H
 exact absurd H (by simp)
 }
/-! ### bits_All: function 33 -/
def bits_All.f (a0 : Int) : Option (Int) := if a0 ≤ 0 then (some 0) else (if a0 ≥ 64 then (some 18446744073709551615) else (if 0 ≤ a0 then (some (IntKind.u64.wrap ((shl .u64 1 a0) - 1))) else (none)))
set_option maxHeartbeats 8000000 in
set_option maxRecDepth 100000 in
theorem bits_All.calls (a0 : Int) (r : Int) (w : World) (h : bits_All.f a0 = some r) :
    Calls Tryd.prog 33 #[.int .i64 a0] w fun e w' => e = .returned (.int .u64 r) ∧ Drawn0 w w' := by
  have H : (if a0 ≤ 0 then (some 0) else (if a0 ≥ 64 then (some 18446744073709551615) else (if 0 ≤ a0 then (some (IntKind.u64.wrap ((shl .u64 1 a0) - 1))) else (none)))) = some r := h
  clear h
  by_cases c2 : a0 ≤ 0
  · rw [if_pos c2] at H
    have c2b0 : decide (a0 ≤ 0) = true := decide_eq_true c2
    clear c2
    obtain rfl := Option.some.inj H
    go_enter Tryd.func33, Tryd.ntmps33
    go_wp2
    go_ret
    exact ⟨by first | rfl | (simp; done) | (simp [*]; done), by repeat (first | exact Drawn0.refl _ | apply Drawn0.step)⟩
  · rw [if_neg c2] at H
    have c2b0 : decide (a0 ≤ 0) = false := decide_eq_false c2
    clear c2
    by_cases c3 : a0 ≥ 64
    · rw [if_pos c3] at H
      have c3b0 : decide (64 ≤ a0) = true := decide_eq_true c3
      clear c3
      obtain rfl := Option.some.inj H
      go_enter Tryd.func33, Tryd.ntmps33
      go_wp2
      go_ret
      exact ⟨by first | rfl | (simp; done) | (simp [*]; done), by repeat (first | exact Drawn0.refl _ | apply Drawn0.step)⟩
    · rw [if_neg c3] at H
      have c3b0 : decide (64 ≤ a0) = false := decide_eq_false c3
      clear c3
      by_cases c4 : 0 ≤ a0
      · rw [if_pos c4] at H
        have c4b0 := eq_true c4
        have c4b1 : decide (0 ≤ a0) = true := decide_eq_true c4
        clear c4
        obtain ⟨ji5, hji5⟩ : ∃ j_ : Int, (shl .u64 1 a0) = j_ := ⟨_, rfl⟩
        replace H : (some (IntKind.u64.wrap ((ji5) - 1))) = some r := by first | (rw [hji5] at H; exact H) | (simp only [hji5] at H ⊢; exact H)
        have hji5_ : (IntKind.u64.wrap (1 * 2 ^ min a0.toNat 64)) = ji5 := hji5
        have hji5z : a0 ≤ 64 → (IntKind.u64.wrap (1 * 2 ^ a0.toNat)) = ji5 := shl_small hji5
        have hji5u : (IntKind.u64.wrap (2 ^ min a0.toNat 64)) = ji5 := by have h_ := hji5_; rw [Int.one_mul] at h_; exact h_
        have hji5v : a0 ≤ 64 → (IntKind.u64.wrap (2 ^ a0.toNat)) = ji5 := fun hle_ => by have h_ := hji5z hle_; rw [Int.one_mul] at h_; exact h_
        obtain rfl := Option.some.inj H
        go_enter Tryd.func33, Tryd.ntmps33
        go_wp2
        go_ret
        exact ⟨by first | rfl | (simp; done) | (simp only [← hji5] <;> (first | rfl | (simp; done))) | (simp [*]; done), by repeat (first | exact Drawn0.refl _ | apply Drawn0.step)⟩
      · rw [if_neg c4] at H
        exact absurd H (by simp)

/-! ### bits_bit: function 41 -/
def bits_bit.f (a0 : Int) : Option (Int) := if a0 < 0 then (some 0) else (if a0 ≥ 64 then (some 0) else (if 0 ≤ a0 then (some (shl .u64 1 a0)) else (none)))
set_option maxHeartbeats 8000000 in
set_option maxRecDepth 100000 in
theorem bits_bit.calls (a0 : Int) (r : Int) (w : World) (h : bits_bit.f a0 = some r) :
    Calls Tryd.prog 41 #[.int .i64 a0] w fun e w' => e = .returned (.int .u64 r) ∧ Drawn0 w w' := by
  have H : (if a0 < 0 then (some 0) else (if a0 ≥ 64 then (some 0) else (if 0 ≤ a0 then (some (shl .u64 1 a0)) else (none)))) = some r := h
  clear h
  by_cases c2 : a0 < 0
  · rw [if_pos c2] at H
    have c2b0 : decide (a0 < 0) = true := decide_eq_true c2
    clear c2
    obtain rfl := Option.some.inj H
    go_enter Tryd.func41, Tryd.ntmps41
    go_wp2
    go_ret
    exact ⟨by first | rfl | (simp; done) | (simp [*]; done), by repeat (first | exact Drawn0.refl _ | apply Drawn0.step)⟩
  · rw [if_neg c2] at H
    have c2b0 : decide (a0 < 0) = false := decide_eq_false c2
    clear c2
    by_cases c3 : a0 ≥ 64
    · rw [if_pos c3] at H
      have c3b0 : decide (64 ≤ a0) = true := decide_eq_true c3
      clear c3
      obtain rfl := Option.some.inj H
      go_enter Tryd.func41, Tryd.ntmps41
      go_wp2
      go_ret
      exact ⟨by first | rfl | (simp; done) | (simp [*]; done), by repeat (first | exact Drawn0.refl _ | apply Drawn0.step)⟩
    · rw [if_neg c3] at H
      have c3b0 : decide (64 ≤ a0) = false := decide_eq_false c3
      clear c3
      by_cases c4 : 0 ≤ a0
      · rw [if_pos c4] at H
        have c4b0 := eq_true c4
        have c4b1 : decide (0 ≤ a0) = true := decide_eq_true c4
        clear c4
        obtain ⟨ji5, hji5⟩ : ∃ j_ : Int, (shl .u64 1 a0) = j_ := ⟨_, rfl⟩
        replace H : (some ji5) = some r := by first | (rw [hji5] at H; exact H) | (simp only [hji5] at H ⊢; exact H)
        have hji5_ : (IntKind.u64.wrap (1 * 2 ^ min a0.toNat 64)) = ji5 := hji5
        have hji5z : a0 ≤ 64 → (IntKind.u64.wrap (1 * 2 ^ a0.toNat)) = ji5 := shl_small hji5
        have hji5u : (IntKind.u64.wrap (2 ^ min a0.toNat 64)) = ji5 := by have h_ := hji5_; rw [Int.one_mul] at h_; exact h_
        have hji5v : a0 ≤ 64 → (IntKind.u64.wrap (2 ^ a0.toNat)) = ji5 := fun hle_ => by have h_ := hji5z hle_; rw [Int.one_mul] at h_; exact h_
        obtain rfl := Option.some.inj H
        go_enter Tryd.func41, Tryd.ntmps41
        go_wp2
        go_ret
        exact ⟨by first | rfl | (simp; done) | (simp only [← hji5] <;> (first | rfl | (simp; done))) | (simp [*]; done), by repeat (first | exact Drawn0.refl _ | apply Drawn0.step)⟩
      · rw [if_neg c4] at H
        exact absurd H (by simp)

/-! ### bits_With: function 34 -/
def bits_With.l0 : Nat → Int → List Int → Int → Int → Option (Int)
  | 0, _, _, _, _ => none
  | k + 1, x0, x7, x8, x9 => if x9 < x8 then (if 0 ≤ x9 then (if x9 < (x7.length : Int) then ((bits_bit.f (rd x7 x9)).bind fun t147 => (bits_With.l0 k (Go.bits .or .u64 x0 t147) x7 x8 (wrap64 (x9 + 1)))) else (none)) else (none)) else (some x0)
def bits_With.f (k : Nat) (a0 : Int) (l1 : List Int) : Option (Int) := bits_With.l0 k a0 l1 (l1.length : Int) 0
theorem bits_With.mono_l : ∀ k, (∀ y0 y1 y2 y3, LeO (bits_With.l0 k y0 y1 y2 y3) (bits_With.l0 (k + 1) y0 y1 y2 y3))
  | 0 => fun _ _ _ _ r h => by simp [bits_With.l0] at h
  | k + 1 => by
    have ih0 := bits_With.mono_l k
    · intro y0 y1 y2 y3
      unfold bits_With.l0
      repeat' first
      | (with_reducible exact ih0 _ _ _ _)
      | (with_reducible exact LeO.refl _)
      | (with_reducible exact LeO.none _)
      | (with_reducible refine LeO.ite ?_ ?_)
      | (with_reducible refine LeO.bind ?_ (fun _ => ?_))
      | exact ih0 _ _ _ _
      | exact LeO.none _
      | refine LeO.ite ?_ ?_
      | refine LeO.bind ?_ (fun _ => ?_)
theorem bits_With.mono : ∀ a0 a1 k, LeO (bits_With.f k a0 a1) (bits_With.f (k + 1) a0 a1) := by
  intro a0 a1 k
  have ih0 := bits_With.mono_l k
  unfold bits_With.f
  repeat' first
      | (with_reducible exact ih0 _ _ _ _)
      | (with_reducible exact LeO.refl _)
      | (with_reducible exact LeO.none _)
      | (with_reducible refine LeO.ite ?_ ?_)
      | (with_reducible refine LeO.bind ?_ (fun _ => ?_))
      | exact ih0 _ _ _ _
      | exact LeO.none _
      | refine LeO.ite ?_ ?_
      | refine LeO.bind ?_ (fun _ => ?_)
set_option maxHeartbeats 8000000 in
set_option maxRecDepth 100000 in
theorem bits_With.calls (k : Nat) (a0 : Int) (A1 : Option Addr) (c1 : Nat) (l1 : List Int) (r : Int) (w : World) (hr1 : Kd.C (Kd.int .i64) w A1 l1.length l1) (hc1 : l1.length ≤ c1) (h : bits_With.f k a0 l1 = some r) :
    Calls Tryd.prog 34 #[.int .u64 a0, .slice A1 l1.length c1] w fun e w' => e = .returned (.int .u64 r) ∧ Drawn0 w w' := by
  have HR1 := Aside0.mk hr1
  have HC1 := Aside0.mk hc1
  clear hr1 hc1
  have H : (bits_With.l0 k a0 l1 (l1.length : Int) 0) = some r := h
  clear h
  have H' := Aside0.mk H
  clear H
  go_enter Tryd.func34, Tryd.ntmps34
  go_wp2
  go_loopg [0, 9] k (fun kq v0 v9 w' => ∃ (x0_1 : Int) (x9_1 : Int), v0 = .int .u64 x0_1 ∧ v9 = .int .i64 x9_1 ∧ Aside0 (bits_With.l0 kq x0_1 l1 (l1.length : Int) x9_1 = some r) ∧ Aside0 (kq ≤ k) ∧ Drawn0 w w')
  case atStart => exact ⟨(a0), (0), (by first | rfl | (simp; done) | (simp [*]; done)), (by first | rfl | (simp; done) | (simp [*]; done)), H', ⟨Nat.le_refl _⟩, by repeat (first | exact Drawn0.refl _ | apply Drawn0.step)⟩
  case round =>
    clear H'
    try clear c1
    try clear p2
    obtain ⟨x0_1, x9_1, rfl, rfl, HA, HK1, ⟨m1, rfl⟩⟩ := hrel
    cases gk with
    | zero => exact absurd HA.out (by simp [bits_With.l0])
    | succ k1 =>
      have H := HA.out
      clear HA
      simp only [bits_With.l0] at H
      by_cases c3 : x9_1 < (l1.length : Int)
      · rw [if_pos c3] at H
        have c3b0 : decide (x9_1 < (l1.length : Int)) = true := decide_eq_true c3
        clear c3
        by_cases c4 : 0 ≤ x9_1
        · rw [if_pos c4] at H
          have c4b0 : decide (0 ≤ x9_1) = true := decide_eq_true c4
          clear c4
          by_cases c5 : x9_1 < (l1.length : Int)
          · rw [if_pos c5] at H
            have c5b0 : decide (x9_1 < (l1.length : Int)) = true := decide_eq_true c5
            clear c5
            replace H := Option.bind_eq_some_iff.mp H
            obtain ⟨t147, A60, H⟩ := H
            replace H : (bits_With.l0 k1 (Go.bits .or .u64 x0_1 t147) l1 (l1.length : Int) (wrap64 (x9_1 + 1))) = some r := H
            have A6 := Aside0.mk A60
            clear A60
            have H' := Aside0.mk H
            clear H
            have p146 : 0 ≤ (x9_1 : Int) := of_decide_eq_true (by first | (with_reducible assumption) | assumption)
            have q146 : x9_1 < (l1.length : Int) := of_decide_eq_true (by first | (with_reducible assumption) | assumption)
            obtain ⟨ad146, e146, hx146_0⟩ := Kd.at_int HR1.out x9_1 p146 q146
            cases e146
            replace p146 := eq_true p146
            replace q146 := eq_true q146
            go_wp2_with (first | ((with_reducible refine gate_callee (f := 41) rfl ?_); refine goesL_ (some 15) rfl rfl Tryd.func41 (by kernel_rfl) rfl #[.int .i64 (rd l1 x9_1)] rfl (by (try simp only [List.map_toArray, List.map_cons, List.map_nil]); first | done | rfl | (simp only [List.length_drop, List.length_take]; rfl)) ?_; (with_reducible refine (bits_bit.calls (rd l1 x9_1) t147 _ A6.out).mono ?_); rintro e w' ⟨rfl, ⟨nd, rfl⟩⟩; refine ⟨_, rfl, ?_⟩))
            go_roundg k1
            case measure => have := HK1.out; omega
            case rel => exact ⟨(Go.bits .or .u64 x0_1 t147), (wrap64 (x9_1 + 1)), (by first | rfl | (simp; done) | (simp [*]; done)), (by first | rfl | (simp; done) | (simp [*]; done)), H', ⟨by have := HK1.out; omega⟩, by repeat (first | exact Drawn0.refl _ | apply Drawn0.step)⟩
          · rw [if_neg c5] at H
            exact absurd H (by simp)
        · rw [if_neg c4] at H
          exact absurd H (by simp)
      · rw [if_neg c3] at H
        have c3b0 : decide (x9_1 < (l1.length : Int)) = false := decide_eq_false c3
        clear c3
        obtain rfl := Option.some.inj H
        go_wp2
        go_ret
        exact ⟨by first | rfl | (simp; done) | (simp [*]; done), by repeat (first | exact Drawn0.refl _ | apply Drawn0.step)⟩

/-! ### cfg_Doms: function 21 -/
-- taken with its maker

/-! ### slices_IndexFunc_int_int: function 42 -/
-- taken with its maker

/-! ### slices_DeleteFunc_int_int: function 35 -/
-- taken with its maker

/-! ### slices_Clone_int_int: function 36 -/
-- taken with its maker

/-! ### loop_graph_backs: function 23 -/
-- taken with its maker

/-! ### slices_AppendSeq_int_int: function 43 -/
-- taken with its maker

/-! ### slices_Collect_int: function 39 -/
-- taken with its maker

/-! ### bits_each: function 40 -/
-- taken with its maker

/-! ### bits_List: function 24 -/
def bits_List.f (a0 : Int) : Option (List Int) := if 0 ≤ a0 then (if a0 < 18446744073709551616 then some (It.nints a0.toNat) else none) else none
theorem bits_List.calls (a0 : Int) (r : List Int) (w : World) (HT0 : It.TabOk w) (h : bits_List.f a0 = some r) :
    Calls Tryd.prog 24 #[.int .u64 a0] w fun e w' => ∃ v0_ : Value, e = .returned (v0_) ∧ Kd.R (Kd.int .i64) 3 w' w.heap.size (fun _ => True) v0_ r ∧ Below w.heap.size w w' := by
  unfold bits_List.f at h
  by_cases h0 : 0 ≤ a0
  · rw [if_pos h0] at h
    by_cases h1 : a0 < 18446744073709551616
    · rw [if_pos h1] at h
      obtain rfl := Option.some.inj h
      obtain ⟨n, rfl⟩ := Int.eq_ofNat_of_zero_le h0
      exact It.list_any n (by omega) w HT0
    · rw [if_neg h1] at h
      exact absurd h (by simp)
  · rw [if_neg h0] at h
    exact absurd h (by simp)

/-! ### bits_Has: function 38 -/
def bits_Has.f (a0 : Int) (a1 : Int) : Option (Bool) := (bits_bit.f a1).bind fun t148 => (some ((Go.bits .and .u64 a0 t148) != 0))
set_option maxHeartbeats 8000000 in
set_option maxRecDepth 100000 in
theorem bits_Has.calls (a0 : Int) (a1 : Int) (r : Bool) (w : World) (h : bits_Has.f a0 a1 = some r) :
    Calls Tryd.prog 38 #[.int .u64 a0, .int .i64 a1] w fun e w' => e = .returned (.bool r) ∧ Drawn0 w w' := by
  have H : ((bits_bit.f a1).bind fun t148 => (some ((Go.bits .and .u64 a0 t148) != 0))) = some r := h
  clear h
  replace H := Option.bind_eq_some_iff.mp H
  obtain ⟨t148, A30, H⟩ := H
  replace H : (some ((Go.bits .and .u64 a0 t148) != 0)) = some r := H
  have A3 := Aside0.mk A30
  clear A30
  obtain rfl := Option.some.inj H
  go_enter Tryd.func38, Tryd.ntmps38
  go_wp2_with (first | ((with_reducible refine gate_callee (f := 41) rfl ?_); refine goesL_ (some 7) rfl rfl Tryd.func41 (by kernel_rfl) rfl #[.int .i64 a1] rfl (by (try simp only [List.map_toArray, List.map_cons, List.map_nil]); first | done | rfl | (simp only [List.length_drop, List.length_take]; rfl)) ?_; (with_reducible refine (bits_bit.calls a1 t148 _ A3.out).mono ?_); rintro e w' ⟨rfl, ⟨nd, rfl⟩⟩; refine ⟨_, rfl, ?_⟩))
  go_ret
  exact ⟨by first | rfl | (simp; done) | (simp [*]; done), by repeat (first | exact Drawn0.refl _ | apply Drawn0.step)⟩

/-! ### loop_graph_body: function 25 -/
-- taken with its maker

end Go.Proofs.YtbnkeddnibjncaaDoor.P
