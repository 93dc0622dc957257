-- written by this project's xprint.py (a turn of the kit's printer; its own texts among them)
import Derived.Test.YtfiemikganhgeaaPx0
import Derived.Test.YtfiemikganhgeaaPx3
namespace Go.Proofs.Ytfiemikganhgeaa.P
open Go.RowKit Go.Proofs.YtfiemikganhgeaaW.PrintWords Go.Proofs.YtfiemikganhgeaaW.PrintLast Go.Proofs.YtfiemikganhgeaaW.PrintMore
attribute [local go_sem] max2_int min2_int max_two min_two max_three min_three max_four min_four   -- for this text's walks alone
attribute [local irreducible] Calls
set_option linter.unusedVariables false
set_option linter.unusedSimpArgs false

/-! ### interlocklaw13_known: function 8 -/
def interlocklaw13_known.f (k : Nat)  : Option (Bool) := (flow_Solve.f k (([(([1] : List Int)), (([2] : List Int))] : List (List Int))) (([1, 0] : List Int)) ([] : List Int) 2 false false).bind fun bt134 => (if (bt134.1.length : Int) = 2 then (if (bt134.2.length : Int) = 2 then (if 0 < (bt134.1.length : Int) then (if (rd bt134.1 0) = 2 then (if 1 < (bt134.1.length : Int) then (if (rd bt134.1 1) = 3 then (if 0 < (bt134.2.length : Int) then (if (rd bt134.2 0) = 3 then (if 1 < (bt134.2.length : Int) then (some ((rd bt134.2 1) == 3)) else (none)) else (none)) else (none)) else (none)) else (none)) else (none)) else (none)) else (none)) else (none))
theorem interlocklaw13_known.mono : ∀ k, LeO (interlocklaw13_known.f k ) (interlocklaw13_known.f (k + 1) ) := by
  intro  k
  unfold interlocklaw13_known.f
  repeat' first
      | (with_reducible exact flow_Solve.mono _ _ _ _ _ _ _)
      | (with_reducible exact LeO.refl _)
      | (with_reducible exact LeO.none _)
      | (with_reducible refine LeO.ite ?_ ?_)
      | (with_reducible refine LeO.bind ?_ (fun _ => ?_))
      | exact LeO.none _
      | refine LeO.ite ?_ ?_
      | refine LeO.bind ?_ (fun _ => ?_)
set_option maxHeartbeats 8000000 in
set_option maxRecDepth 100000 in
theorem interlocklaw13_known.calls (k : Nat)  (r : Bool) (w : World) (h : interlocklaw13_known.f k  = some r) :
    Calls Try.prog 8 #[] w fun e w' => e = .returned (.bool r) ∧ Below w.heap.size w w' := by
 have hu31 := Try.underlying31
 have HB := Aside0.mk (Below.refl w.heap.size w)
 have H : ((flow_Solve.f k (([(([1] : List Int)), (([2] : List Int))] : List (List Int))) (([1, 0] : List Int)) ([] : List Int) 2 false false).bind fun bt134 => (if (bt134.1.length : Int) = 2 then (if (bt134.2.length : Int) = 2 then (if 0 < (bt134.1.length : Int) then (if (rd bt134.1 0) = 2 then (if 1 < (bt134.1.length : Int) then (if (rd bt134.1 1) = 3 then (if 0 < (bt134.2.length : Int) then (if (rd bt134.2 0) = 3 then (if 1 < (bt134.2.length : Int) then (some ((rd bt134.2 1) == 3)) else (none)) else (none)) else (none)) else (none)) else (none)) else (none)) else (none)) else (none)) else (none))) = some r := h
 clear h
 obtain ⟨y122, hy122⟩ : ∃ y_ : List Int, y_ = (([1] : List Int)) := ⟨_, rfl⟩
 replace H : ((flow_Solve.f k (([y122, (([2] : List Int))] : List (List Int))) (([1, 0] : List Int)) ([] : List Int) 2 false false).bind fun bt134 => (if (bt134.1.length : Int) = 2 then (if (bt134.2.length : Int) = 2 then (if 0 < (bt134.1.length : Int) then (if (rd bt134.1 0) = 2 then (if 1 < (bt134.1.length : Int) then (if (rd bt134.1 1) = 3 then (if 0 < (bt134.2.length : Int) then (if (rd bt134.2 0) = 3 then (if 1 < (bt134.2.length : Int) then (some ((rd bt134.2 1) == 3)) else (none)) else (none)) else (none)) else (none)) else (none)) else (none)) else (none)) else (none)) else (none))) = some r := by first | (rw [hy122]; with_reducible exact H) | (have H2_ := (Option.bind_some _ _).symm.trans H; rw [hy122]; with_reducible exact H2_) | (have H2_ := (Option.bind_some _ _).symm.trans H; with_reducible exact H2_) | with_reducible exact H | (rw [hy122]; exact H) | exact H
 have Ny122 := Aside0.mk hy122
 clear hy122
 obtain ⟨y125, hy125⟩ : ∃ y_ : List Int, y_ = (([2] : List Int)) := ⟨_, rfl⟩
 replace H : ((flow_Solve.f k (([y122, y125] : List (List Int))) (([1, 0] : List Int)) ([] : List Int) 2 false false).bind fun bt134 => (if (bt134.1.length : Int) = 2 then (if (bt134.2.length : Int) = 2 then (if 0 < (bt134.1.length : Int) then (if (rd bt134.1 0) = 2 then (if 1 < (bt134.1.length : Int) then (if (rd bt134.1 1) = 3 then (if 0 < (bt134.2.length : Int) then (if (rd bt134.2 0) = 3 then (if 1 < (bt134.2.length : Int) then (some ((rd bt134.2 1) == 3)) else (none)) else (none)) else (none)) else (none)) else (none)) else (none)) else (none)) else (none)) else (none))) = some r := by first | (rw [hy125]; with_reducible exact H) | (have H2_ := (Option.bind_some _ _).symm.trans H; rw [hy125]; with_reducible exact H2_) | (have H2_ := (Option.bind_some _ _).symm.trans H; with_reducible exact H2_) | with_reducible exact H | (rw [hy125]; exact H) | exact H
 have Ny125 := Aside0.mk hy125
 clear hy125
 obtain ⟨y128, hy128⟩ : ∃ y_ : List (List Int), y_ = (([y122, y125] : List (List Int))) := ⟨_, rfl⟩
 replace H : ((flow_Solve.f k y128 (([1, 0] : List Int)) ([] : List Int) 2 false false).bind fun bt134 => (if (bt134.1.length : Int) = 2 then (if (bt134.2.length : Int) = 2 then (if 0 < (bt134.1.length : Int) then (if (rd bt134.1 0) = 2 then (if 1 < (bt134.1.length : Int) then (if (rd bt134.1 1) = 3 then (if 0 < (bt134.2.length : Int) then (if (rd bt134.2 0) = 3 then (if 1 < (bt134.2.length : Int) then (some ((rd bt134.2 1) == 3)) else (none)) else (none)) else (none)) else (none)) else (none)) else (none)) else (none)) else (none)) else (none))) = some r := by first | (rw [hy128]; with_reducible exact H) | (have H2_ := (Option.bind_some _ _).symm.trans H; rw [hy128]; with_reducible exact H2_) | (have H2_ := (Option.bind_some _ _).symm.trans H; with_reducible exact H2_) | with_reducible exact H | (rw [hy128]; exact H) | exact H
 have Ny128 := Aside0.mk hy128
 clear hy128
 obtain ⟨y131, hy131⟩ : ∃ y_ : List Int, y_ = (([1, 0] : List Int)) := ⟨_, rfl⟩
 replace H : ((flow_Solve.f k y128 y131 ([] : List Int) 2 false false).bind fun bt134 => (if (bt134.1.length : Int) = 2 then (if (bt134.2.length : Int) = 2 then (if 0 < (bt134.1.length : Int) then (if (rd bt134.1 0) = 2 then (if 1 < (bt134.1.length : Int) then (if (rd bt134.1 1) = 3 then (if 0 < (bt134.2.length : Int) then (if (rd bt134.2 0) = 3 then (if 1 < (bt134.2.length : Int) then (some ((rd bt134.2 1) == 3)) else (none)) else (none)) else (none)) else (none)) else (none)) else (none)) else (none)) else (none)) else (none))) = some r := by first | (rw [hy131]; with_reducible exact H) | (have H2_ := (Option.bind_some _ _).symm.trans H; rw [hy131]; with_reducible exact H2_) | (have H2_ := (Option.bind_some _ _).symm.trans H; with_reducible exact H2_) | with_reducible exact H | (rw [hy131]; exact H) | exact H
 have Ny131 := Aside0.mk hy131
 clear hy131
 replace H := Option.bind_eq_some_iff.mp H
 obtain ⟨⟨t134, t137⟩, A10, H⟩ := H
 replace H : (if (t134.length : Int) = 2 then (if (t137.length : Int) = 2 then (if 0 < (t134.length : Int) then (if (rd t134 0) = 2 then (if 1 < (t134.length : Int) then (if (rd t134 1) = 3 then (if 0 < (t137.length : Int) then (if (rd t137 0) = 3 then (if 1 < (t137.length : Int) then (some ((rd t137 1) == 3)) else (none)) else (none)) else (none)) else (none)) else (none)) else (none)) else (none)) else (none)) else (none)) = some r := H
 have A1 := Aside0.mk A10
 clear A10
 by_cases c2 : (t134.length : Int) = 2
 {
 rw [if_pos c2] at H
 have c2b0 : ((t134.length : Int) == 2) = true := beq_iff_eq.mpr c2
 have c2b1 : ((t134.length : Int) != 2) = false := bne_eq_false_iff_eq.mpr c2
 clear c2
 by_cases c3 : (t137.length : Int) = 2
 {
 rw [if_pos c3] at H
 have c3b0 : ((t137.length : Int) == 2) = true := beq_iff_eq.mpr c3
 have c3b1 : ((t137.length : Int) != 2) = false := bne_eq_false_iff_eq.mpr c3
 clear c3
 by_cases c4 : 0 < (t134.length : Int)
 {
 rw [if_pos c4] at H
 have c4b0 : decide (0 < (t134.length : Int)) = true := decide_eq_true c4
 have c4b1 : decide (0 < t134.length) = true := decide_eq_true (by omega)
 clear c4
 by_cases c5 : (rd t134 0) = 2
 {
 rw [if_pos c5] at H
 have c5b0 : ((rd t134 0) == 2) = true := beq_iff_eq.mpr c5
 have c5b1 : ((rd t134 0) != 2) = false := bne_eq_false_iff_eq.mpr c5
 clear c5
 by_cases c6 : 1 < (t134.length : Int)
 {
 rw [if_pos c6] at H
 have c6b0 : decide (1 < (t134.length : Int)) = true := decide_eq_true c6
 have c6b1 : decide (1 < t134.length) = true := decide_eq_true (by omega)
 clear c6
 by_cases c7 : (rd t134 1) = 3
 {
 rw [if_pos c7] at H
 have c7b0 : ((rd t134 1) == 3) = true := beq_iff_eq.mpr c7
 have c7b1 : ((rd t134 1) != 3) = false := bne_eq_false_iff_eq.mpr c7
 clear c7
 by_cases c8 : 0 < (t137.length : Int)
 {
 rw [if_pos c8] at H
 have c8b0 : decide (0 < (t137.length : Int)) = true := decide_eq_true c8
 have c8b1 : decide (0 < t137.length) = true := decide_eq_true (by omega)
 clear c8
 by_cases c9 : (rd t137 0) = 3
 {
 rw [if_pos c9] at H
 have c9b0 : ((rd t137 0) == 3) = true := beq_iff_eq.mpr c9
 have c9b1 : ((rd t137 0) != 3) = false := bne_eq_false_iff_eq.mpr c9
 clear c9
 by_cases c10 : 1 < (t137.length : Int)
 {
 rw [if_pos c10] at H
 have c10b0 : decide (1 < (t137.length : Int)) = true := decide_eq_true c10
 have c10b1 : decide (1 < t137.length) = true := decide_eq_true (by omega)
 clear c10
 obtain rfl := Option.some.inj H
 go_enter Try.func8, Try.ntmps8
 go_wp2_with (first | ((with_reducible refine gate_dst (N := 4) rfl ?_); (try (refine gate_guard (by rfl) ?_; dsimp only)); refine Kd.R_lit (Kd.int .i64) _ 3 ?hg (N := 4) ?hd (xs := ([1] : List Int)) (inner := [.int .i64 1]) (ok := fun _ => True) (okp := fun _ => True) ?hr ?hp (fun _ hk => hk) trivial (Below.refl _ _) (Nat.le_refl _) (by simp) ?_; (case hd => rfl); (case hg => rfl); (case hr => first | (go_simp; done) | (go_simp; rfl)); (case hp => exact (Reps.one (show Kd.M (Kd.int .i64) _ _ _ 1 [.int .i64 1] from rfl) (Reps.none _ _))); intro v123 w11 ho12 hb hg_ hnew_; clear hg_ hnew_; (first | rw [← Ny122.out] at ho12 | (simp only [Int.reduceToNat] at ho12; rw [← Ny122.out] at ho12)); have n0_ := Aside0.mk (Kd.R_lower ho12 (below_size (by repeat (first | (with_reducible first | exact HB.out | apply below_alloc | apply pw_below_drewN | apply below_drew1) | exact HB.out)))); have n1_ := Aside0.mk (below_step (by repeat (first | (with_reducible first | exact HB.out | apply below_alloc | apply pw_below_drewN | apply below_drew1) | exact HB.out)) hb); clear HB; have HO124 := n0_; have HB := n1_; clear n0_ n1_; clear hb ho12) | ((with_reducible refine gate_dst (N := 5) rfl ?_); (try (refine gate_guard (by rfl) ?_; dsimp only)); refine Kd.R_lit (Kd.int .i64) _ 3 ?hg (N := 5) ?hd (xs := ([2] : List Int)) (inner := [.int .i64 2]) (ok := fun _ => True) (okp := fun _ => True) ?hr ?hp (fun _ hk => hk) trivial (Below.refl _ _) (Nat.le_refl _) (by simp) ?_; (case hd => rfl); (case hg => rfl); (case hr => first | (go_simp; done) | (go_simp; rfl)); (case hp => exact (Reps.one (show Kd.M (Kd.int .i64) _ _ _ 2 [.int .i64 2] from rfl) (Reps.none _ _))); intro v126 w13 ho14 hb hg_ hnew_; clear hg_ hnew_; (first | rw [← Ny125.out] at ho14 | (simp only [Int.reduceToNat] at ho14; rw [← Ny125.out] at ho14)); have n0_ := Aside0.mk (Kd.R_elder' (by (with_reducible repeat (first | apply Kd.R_alloc | apply Kd.R_drewN | apply Kd.R_drew)); exact HO124.out) (Kd.R_base ho14) hb); have n1_ := Aside0.mk (Kd.R_lower (Kd.R_new' ho14 (Kd.R_lt (by (with_reducible repeat (first | apply Kd.R_alloc | apply Kd.R_drewN | apply Kd.R_drew)); exact HO124.out))) (below_size (by repeat (first | (with_reducible first | exact HB.out | apply below_alloc | apply pw_below_drewN | apply below_drew1) | exact HB.out)))); have n2_ := Aside0.mk (below_step (by repeat (first | (with_reducible first | exact HB.out | apply below_alloc | apply pw_below_drewN | apply below_drew1) | exact HB.out)) hb); clear HO124; clear HB; have HO124 := n0_; have HO127 := n1_; have HB := n2_; clear n0_ n1_ n2_; clear hb ho14; obtain ⟨Ao15, co15, eo15⟩ := Kd.R_slice HO124.out; subst eo15; obtain ⟨Ao16, co16, eo16⟩ := Kd.R_slice HO127.out; subst eo16) | ((with_reducible refine gate_dst (N := 6) rfl ?_); (try (refine gate_guard (by rfl) ?_; dsimp only)); refine Kd.N_lit (Kd.slice 3 (Kd.int .i64)) _ 33 ?hg (N' := 6) ?hd (xs := ([y122, y125] : List (List Int))) (inner := [.slice Ao15 y122.length co15, .slice Ao16 y125.length co16]) (ok := (fun _ => True)) (okp := (fun _ => True)) ?hr ?hp (fun _ hk => hk) ((show ∀ k_, w13.heap.size ≤ k_ → (fun _ => True) k_ from fun k_ hk => trivial) _ (Nat.le_refl _)) (Below.refl _ _) (Nat.le_refl _) (by simp) ?_; (case hd => rfl); (case hg => rfl); (case hr => first | (go_simp; done) | (go_simp; rfl)); (case hp => exact (Reps.one (show Kd.FK (Kd.slice 3 (Kd.int .i64)) _ _ y122 [.slice Ao15 y122.length co15] from (Kd.FK_slice_mk (Kd.R_reads' (Kd.R_mono (ok' := (fun _ => True)) (HO124.out) (fun k_ hk => trivial))).2.1 (Kd.R_F (Kd.R_mono (ok' := (fun _ => True)) (HO124.out) (fun k_ hk => trivial))))) (Reps.one (show Kd.FK (Kd.slice 3 (Kd.int .i64)) _ _ y125 [.slice Ao16 y125.length co16] from (Kd.FK_slice_mk (Kd.R_reads' (Kd.R_mono (ok' := (fun _ => True)) (HO127.out) (fun k_ hk => trivial))).2.1 (Kd.R_F (Kd.R_mono (ok' := (fun _ => True)) (HO127.out) (fun k_ hk => trivial))))) (Reps.none _ _)))); intro v129 w17 ho18 hb hg_ hnew_; clear hg_ hnew_; (first | rw [← Ny128.out] at ho18 | (simp only [Int.reduceToNat] at ho18; rw [← Ny128.out] at ho18)); have n0_ := Aside0.mk (Kd.N_lower ho18 (below_size (by repeat (first | (with_reducible first | exact HB.out | apply below_alloc | apply pw_below_drewN | apply below_drew1) | exact HB.out)))); have n1_ := Aside0.mk (below_step (by repeat (first | (with_reducible first | exact HB.out | apply below_alloc | apply pw_below_drewN | apply below_drew1) | exact HB.out)) hb); clear HB; clear HO124; clear HO127; have HO130 := n0_; have HB := n1_; clear n0_ n1_; clear hb ho18) | ((with_reducible refine gate_dst (N := 7) rfl ?_); (try (refine gate_guard (by rfl) ?_; dsimp only)); refine Kd.R_lit (Kd.int .u64) _ 24 ?hg (N := 7) ?hd (xs := ([1, 0] : List Int)) (inner := [.int .u64 1, .int .u64 0]) (ok := fun _ => True) (okp := fun _ => True) ?hr ?hp (fun _ hk => hk) trivial (Below.refl _ _) (Nat.le_refl _) (by simp) ?_; (case hd => rfl); (case hg => rfl); (case hr => first | (go_simp; done) | (go_simp; rfl)); (case hp => exact (Reps.one (show Kd.M (Kd.int .u64) _ _ _ 1 [.int .u64 1] from rfl) (Reps.one (show Kd.M (Kd.int .u64) _ _ _ 0 [.int .u64 0] from rfl) (Reps.none _ _)))); intro v132 w19 ho20 hb hg_ hnew_; clear hg_ hnew_; (first | rw [← Ny131.out] at ho20 | (simp only [Int.reduceToNat] at ho20; rw [← Ny131.out] at ho20)); have n0_ := Aside0.mk (Kd.N_elder' (by (with_reducible repeat (first | apply Kd.N_alloc | apply Kd.N_drewN | apply Kd.N_drew)); exact HO130.out) (Kd.R_base ho20) hb); have n1_ := Aside0.mk (Kd.R_lower ho20 (below_size (by repeat (first | (with_reducible first | exact HB.out | apply below_alloc | apply pw_below_drewN | apply below_drew1) | exact HB.out)))); have n2_ := Aside0.mk (below_step (by repeat (first | (with_reducible first | exact HB.out | apply below_alloc | apply pw_below_drewN | apply below_drew1) | exact HB.out)) hb); clear HO130; clear HB; have HO130 := n0_; have HO133 := n1_; have HB := n2_; clear n0_ n1_ n2_; clear hb ho20; obtain ⟨Ao21, co21, eo21⟩ := Kd.R_slice HO133.out; subst eo21; obtain ⟨Ao22, co22, eo22⟩ := Kd.N_slice HO130.out; subst eo22) | ((with_reducible refine gate_callee (f := 10) rfl ?_); refine goesL_ (some 9) rfl rfl Try.func10 (by kernel_rfl) rfl #[.agg #[.slice Ao22 y128.length co22, .slice Ao21 y131.length co21, .slice none 0 0, .int .u64 2, .bool false, .bool false]] rfl (by (try simp only [List.map_toArray, List.map_cons, List.map_nil]); first | done | rfl | (simp only [List.length_drop, List.length_take]; rfl)) ?_; (refine (flow_Solve.calls k _ _ y128 _ _ y131 _ _ ([] : List Int) 2 false false t134 t137 _ ?side1 ?side2 ?side3 ?side4 ?side5 ?side6 A1.out).mono ?_); (case side1 => repeat (first | exact (Kd.N_reads' HO130.out).2.2 | (with_reducible refine Kd.C_alloc ?_ _) | (with_reducible refine Kd.C_drewN ?_ _) | (with_reducible refine Kd.C_drew ?_))); (case side2 => exact (Kd.N_reads' HO130.out).2.1); (case side3 => repeat (first | exact (Kd.R_reads' HO133.out).2.2 | (with_reducible refine Kd.C_alloc ?_ _) | (with_reducible refine Kd.C_drewN ?_ _) | (with_reducible refine Kd.C_drew ?_))); (case side4 => exact (Kd.R_reads' HO133.out).2.1); (case side5 => exact Kd.C_nil _ _); (case side6 => exact Nat.le_refl _); rintro e w23 ⟨v135, v138, rfl, ho0, ho1, hb⟩; refine ⟨_, rfl, ?_⟩; have n0_ := Aside0.mk (Kd.N_mono (Kd.N_told (Kd.N_told (Kd.N_old (by (with_reducible repeat (first | apply Kd.N_alloc | apply Kd.N_drewN | apply Kd.N_drew)); exact HO130.out) hb) (Kd.R_base ho0)) (Kd.R_base ho1)) (fun _ h_ => h_.1)); have n1_ := Aside0.mk (Kd.R_mono (Kd.R_told (Kd.R_told (Kd.R_old (by (with_reducible repeat (first | apply Kd.R_alloc | apply Kd.R_drewN | apply Kd.R_drew)); exact HO133.out) hb) (Kd.R_base ho0)) (Kd.R_base ho1)) (fun _ h_ => h_.1)); have n2_ := Aside0.mk (Kd.R_lower (Kd.R_new' ho0 (Kd.R_lt (by (with_reducible repeat (first | apply Kd.R_alloc | apply Kd.R_drewN | apply Kd.R_drew)); exact HO133.out))) (below_size (by repeat (first | (with_reducible first | exact HB.out | apply below_alloc | apply pw_below_drewN | apply below_drew1) | exact HB.out)))); have n3_ := Aside0.mk (Kd.R_lower (Kd.R_new' ho1 (Kd.R_lt (by (with_reducible repeat (first | apply Kd.R_alloc | apply Kd.R_drewN | apply Kd.R_drew)); exact HO133.out))) (below_size (by repeat (first | (with_reducible first | exact HB.out | apply below_alloc | apply pw_below_drewN | apply below_drew1) | exact HB.out)))); have n4_ := Aside0.mk (below_step (by repeat (first | (with_reducible first | exact HB.out | apply below_alloc | apply pw_below_drewN | apply below_drew1) | exact HB.out)) hb); clear HO130; clear HO133; clear HB; have HO130 := n0_; have HO133 := n1_; have HO136 := n2_; have HO139 := n3_; have HB := n4_; clear n0_ n1_ n2_ n3_ n4_; (try clear hb); (try clear hb2); (try clear hk); (try clear hi); (try clear ho0); (try clear ho1); obtain ⟨Ao24, co24, eo24⟩ := Kd.R_slice HO136.out; subst eo24; obtain ⟨Ao25, co25, eo25⟩ := Kd.R_slice HO139.out; subst eo25; have p140 : 0 ≤ (0 : Int) := (by omega); have q140 : 0 < (t134.length : Int) := of_decide_eq_true (by first | (with_reducible assumption) | assumption); obtain ⟨ad140, e140, hx140_0⟩ := Kd.at_int (Kd.R_reads' HO136.out).2.2 0 p140 q140; cases e140; have qi140 : (0 < t134.length) = True := eq_true (by omega); (try rw [show ((0 : Int)).toNat = 0 from rfl] at hx140_0); (try rw [Addr.add_zero'] at hx140_0); replace p140 := eq_true p140; replace q140 := eq_true q140; have p141 : 0 ≤ (1 : Int) := (by omega); have q141 : 1 < (t134.length : Int) := of_decide_eq_true (by first | (with_reducible assumption) | assumption); obtain ⟨ad141, e141, hx141_0⟩ := Kd.at_int (Kd.R_reads' HO136.out).2.2 1 p141 q141; obtain rfl : ad140 = ad141 := (by injection e141); (try simp only [show (1 : Int).toNat = 1 from rfl, Nat.reduceMul, Nat.reduceEqDiff, Go.Addr.add, ↓reduceIte] at hx141_0); have qi141 : (1 < t134.length) = True := eq_true (by omega); (try rw [show ((1 : Int)).toNat = 1 from rfl] at hx141_0); replace p141 := eq_true p141; replace q141 := eq_true q141; have p142 : 0 ≤ (0 : Int) := (by omega); have q142 : 0 < (t137.length : Int) := of_decide_eq_true (by first | (with_reducible assumption) | assumption); obtain ⟨ad142, e142, hx142_0⟩ := Kd.at_int (Kd.R_reads' HO139.out).2.2 0 p142 q142; cases e142; have qi142 : (0 < t137.length) = True := eq_true (by omega); (try rw [show ((0 : Int)).toNat = 0 from rfl] at hx142_0); (try rw [Addr.add_zero'] at hx142_0); replace p142 := eq_true p142; replace q142 := eq_true q142; have p143 : 0 ≤ (1 : Int) := (by omega); have q143 : 1 < (t137.length : Int) := of_decide_eq_true (by first | (with_reducible assumption) | assumption); obtain ⟨ad143, e143, hx143_0⟩ := Kd.at_int (Kd.R_reads' HO139.out).2.2 1 p143 q143; obtain rfl : ad142 = ad143 := (by injection e143); (try simp only [show (1 : Int).toNat = 1 from rfl, Nat.reduceMul, Nat.reduceEqDiff, Go.Addr.add, ↓reduceIte] at hx143_0); have qi143 : (1 < t137.length) = True := eq_true (by omega); (try rw [show ((1 : Int)).toNat = 1 from rfl] at hx143_0); replace p143 := eq_true p143; replace q143 := eq_true q143))
 go_ret
 exact ⟨by first | rfl | (simp [errW_none, errW_some] <;> rfl) | (simp [*, errW_none, errW_some] <;> rfl), by repeat (first | (with_reducible first | exact HB.out | apply below_alloc | apply pw_below_drewN | apply below_drew1) | exact HB.out)⟩
 }
 {
 rw [if_neg c10] at H
 exact absurd H (by simp)
 }
 }
 {
 rw [if_neg c9] at H
 exact absurd H (by simp)
 }
 }
 {
 rw [if_neg c8] at H
 exact absurd H (by simp)
 }
 }
 {
 rw [if_neg c7] at H
 exact absurd H (by simp)
 }
 }
 {
 rw [if_neg c6] at H
 exact absurd H (by simp)
 }
 }
 {
 rw [if_neg c5] at H
 exact absurd H (by simp)
 }
 }
 {
 rw [if_neg c4] at H
 exact absurd H (by simp)
 }
 }
 {
 rw [if_neg c3] at H
 exact absurd H (by simp)
 }
 }
 {
 rw [if_neg c2] at H
 exact absurd H (by simp)
 }
/-! ### interlocklaw10_Graph: function 9 -/
def interlocklaw10_Graph.l0 : Nat → List Int → Int → List (List Int) → Int → Option ((List (List Int)))
  | 0, _, _, _, _ => none
  | k + 1, x1, x5, x6, x7 => if (wrap64 (x7 + 1)) < (x1.length : Int) then (if x7 < 50 then (if 0 ≤ x7 then (if x7 < (x1.length : Int) then (if x5 = 0 then (none) else (if 0 ≤ (Int.tmod (wrap64 (rd x1 x7)) x5) then (if (Int.tmod (wrap64 (rd x1 x7)) x5) < (x6.length : Int) then (if 0 ≤ (wrap64 (x7 + 1)) then (if (wrap64 (x5 + 2)) = 0 then (none) else (if (rd_L1 x6 (Int.tmod (wrap64 (rd x1 x7)) x5)).length < 17592186044416 then (interlocklaw10_Graph.l0 k x1 x5 (x6.set ((Int.tmod (wrap64 (rd x1 x7)) x5) : Int).toNat ((rd_L1 x6 (Int.tmod (wrap64 (rd x1 x7)) x5)) ++ [wrap64 ((wrap64 ((Int.tmod (wrap64 (rd x1 (wrap64 (x7 + 1)))) (wrap64 (x5 + 2))) - 1)) + ((Int.tdiv (rd x1 x7) 240) % 256))])) (wrap64 (x7 + 2))) else (none))) else (none)) else (none)) else (none))) else (none)) else (none)) else (some x6)) else (some x6)
def interlocklaw10_Graph.f (k : Nat) (a0 : Int) (l1 : List Int) : Option ((List (List Int))) := if 0 ≤ (wrap64 (1 + (wrap64 (Int.tmod a0 12)))) then (if (wrap64 (1 + (wrap64 (Int.tmod a0 12))) : Int).toNat ≤ 11728124029610 then (interlocklaw10_Graph.l0 k l1 (wrap64 (1 + (wrap64 (Int.tmod a0 12)))) (List.replicate (wrap64 (1 + (wrap64 (Int.tmod a0 12))) : Int).toNat []) 0) else (none)) else (none)
theorem interlocklaw10_Graph.mono_l : ∀ k, (∀ y0 y1 y2 y3, LeO (interlocklaw10_Graph.l0 k y0 y1 y2 y3) (interlocklaw10_Graph.l0 (k + 1) y0 y1 y2 y3))
  | 0 => fun _ _ _ _ r h => by simp [interlocklaw10_Graph.l0] at h
  | k + 1 => by
    have ih0 := interlocklaw10_Graph.mono_l k
    · intro y0 y1 y2 y3
      unfold interlocklaw10_Graph.l0
      repeat' first
      | (with_reducible exact ih0 _ _ _ _)
      | (with_reducible exact LeO.refl _)
      | (with_reducible exact LeO.none _)
      | (with_reducible refine LeO.ite ?_ ?_)
      | (with_reducible refine LeO.bind ?_ (fun _ => ?_))
      | exact ih0 _ _ _ _
      | exact LeO.none _
      | refine LeO.ite ?_ ?_
      | refine LeO.bind ?_ (fun _ => ?_)
theorem interlocklaw10_Graph.mono : ∀ a0 a1 k, LeO (interlocklaw10_Graph.f k a0 a1) (interlocklaw10_Graph.f (k + 1) a0 a1) := by
  intro a0 a1 k
  have ih0 := interlocklaw10_Graph.mono_l k
  unfold interlocklaw10_Graph.f
  repeat' first
      | (with_reducible exact ih0 _ _ _ _)
      | (with_reducible exact LeO.refl _)
      | (with_reducible exact LeO.none _)
      | (with_reducible refine LeO.ite ?_ ?_)
      | (with_reducible refine LeO.bind ?_ (fun _ => ?_))
      | exact ih0 _ _ _ _
      | exact LeO.none _
      | refine LeO.ite ?_ ?_
      | refine LeO.bind ?_ (fun _ => ?_)
def interlocklaw10_Graph.T7 : Bool × List (List Nat × List Nat) := (true, [([], []), ([], []), ([], []), ([], []), ([2, 3], [2, 3]), ([4], [4]), ([], []), ([], []), ([7], [7]), ([6, 8], [6, 8]), ([9], [9]), ([10], [10]), ([], []), ([12], [12]), ([11, 13], [11, 13]), ([14], [14]), ([], []), ([], []), ([16, 17], [16, 17]), ([18], [18]), ([19], [19]), ([20], [20]), ([15, 21], [15, 21]), ([22], [22]), ([5, 23], [5, 23]), ([0, 1, 0, 1, 2, 3, 4, 5, 6, 7, 8, 9, 10, 11, 12, 13, 14, 15, 16, 17, 18, 19, 20, 21, 22, 23, 24], [0, 1]), ([25, 24, 24, 0, 1, 2, 3, 4, 5, 6, 7, 8, 9, 10, 11, 12, 13, 14, 15, 16, 17, 18, 19, 20, 21, 22, 23, 24], [24, 25])])
def interlocklaw10_Graph.B7 : List Nat := [0, 0, 0, 0, 12, 28, 0, 0, 128, 448, 960, 1984, 0, 4096, 16320, 32704, 0, 0, 196608, 458752, 983040, 2031616, 4194240, 8388544, 16777212, 33554431, 67108863]
theorem interlocklaw10_Graph.tab7 : rtab .any (opsOf Try.f9 7) = interlocklaw10_Graph.T7 := by kernel_rfl
theorem interlocklaw10_Graph.bits7 : waitsOk interlocklaw10_Graph.T7.2 interlocklaw10_Graph.B7 = true := by kernel_rfl
set_option maxHeartbeats 8000000 in
set_option maxRecDepth 100000 in
theorem interlocklaw10_Graph.calls (k : Nat) (a0 : Int) (A1 : Option Addr) (c1 : Nat) (l1 : List Int) (r : List (List Int)) (w : World) (hr1 : Kd.C (Kd.int .u8) w A1 l1.length l1) (hc1 : l1.length ≤ c1) (h : interlocklaw10_Graph.f k a0 l1 = some r) :
    Calls Try.prog 9 #[.int .u8 a0, .slice A1 l1.length c1] w fun e w' => ∃ v0_ : Value, e = .returned (v0_) ∧ Kd.S (Kd.slice 3 (Kd.int .i64)) 33 w' w.heap.size (fun _ => True) v0_ r ∧ Below w.heap.size w w' := by
 have HR1 := Aside0.mk hr1
 have HC1 := Aside0.mk hc1
 clear hr1 hc1
 have HB := Aside0.mk (Below.refl w.heap.size w)
 have H : (if 0 ≤ (wrap64 (1 + (wrap64 (Int.tmod a0 12)))) then (if (wrap64 (1 + (wrap64 (Int.tmod a0 12))) : Int).toNat ≤ 11728124029610 then (interlocklaw10_Graph.l0 k l1 (wrap64 (1 + (wrap64 (Int.tmod a0 12)))) (List.replicate (wrap64 (1 + (wrap64 (Int.tmod a0 12))) : Int).toNat []) 0) else (none)) else (none)) = some r := h
 clear h
 obtain ⟨ji3, hji3⟩ : ∃ j_ : Int, (wrap64 (1 + (wrap64 (Int.tmod a0 12)))) = j_ := ⟨_, rfl⟩
 replace H : (if 0 ≤ (ji3) then (if (ji3 : Int).toNat ≤ 11728124029610 then (interlocklaw10_Graph.l0 k l1 ji3 (List.replicate (ji3 : Int).toNat []) 0) else (none)) else (none)) = some r := by first | (rw [hji3] at H; exact H) | (simp only [hji3] at H ⊢; exact H)
 have hji3w : (IntKind.i64.wrap (1 + (wrap64 (Int.tmod a0 12)))) = ji3 := (i64_w _).trans hji3
 by_cases c4 : 0 ≤ (ji3)
 {
 rw [if_pos c4] at H
 have c4b0 := eq_true c4
 have c4b1 : decide (0 ≤ (ji3)) = true := decide_eq_true c4
 clear c4
 by_cases c5 : (ji3 : Int).toNat ≤ 11728124029610
 {
 rw [if_pos c5] at H
 have c5b0 := eq_true c5
 have c5b1 : decide ((ji3 : Int).toNat ≤ 11728124029610) = true := decide_eq_true c5
 clear c5
 obtain ⟨y144, hy144⟩ : ∃ y_ : List (List Int), y_ = (List.replicate (ji3 : Int).toNat []) := ⟨_, rfl⟩
 replace H : (interlocklaw10_Graph.l0 k l1 ji3 y144 0) = some r := by first | (rw [hy144]; with_reducible exact H) | (have H2_ := (Option.bind_some _ _).symm.trans H; rw [hy144]; with_reducible exact H2_) | (have H2_ := (Option.bind_some _ _).symm.trans H; with_reducible exact H2_) | with_reducible exact H | (rw [hy144]; exact H) | exact H
 have Ny144 := Aside0.mk hy144
 clear hy144
 have H' := Aside0.mk H
 clear H
 go_enter Try.func9, Try.ntmps9
 go_wp2_with (first | ((with_reducible refine gate_dst (N := 14) rfl ?_); refine Kd.S_make (Kd.slice 3 (Kd.int .i64)) _ 33 rfl (N := 14) rfl 26 _ _ rfl ji3 rfl rfl Try.underlying26 (.slice none 0 0) 24 info33 rfl (by decide) (by omega) [] (ok := fun _ => True) (okp := fun _ => True) ⟨_, rfl, Kd.R_nil _ _ _ _ _⟩ (fun _ hk => hk) trivial (of_decide_eq_true (by first | (with_reducible assumption) | assumption)) (Nat.le_trans (Nat.mul_le_mul_right _ (of_decide_eq_true (by first | (with_reducible assumption) | assumption) : ji3.toNat ≤ 11728124029610)) (by omega)) (Below.refl _ _) (Nat.le_refl _) ?_; intro v145 w6 ho7 hb hg_ hnew_; clear hg_ hnew_; (first | rw [← Ny144.out] at ho7 | (simp only [Int.reduceToNat] at ho7; rw [← Ny144.out] at ho7)); have n0_ := Aside0.mk (Kd.S_lower ho7 (below_size (by repeat (first | (with_reducible first | exact HB.out | apply below_alloc | apply pw_below_drewN | apply below_drew1) | exact HB.out)))); have n1_ := Aside0.mk (below_step (by repeat (first | (with_reducible first | exact HB.out | apply below_alloc | apply pw_below_drewN | apply below_drew1) | exact HB.out)) hb); clear HB; have HO146 := n0_; have HB := n1_; clear n0_ n1_; clear hb ho7))
 go_loopg [7] k (fun kq v7 w' => ∃ (x6_1 : List (List Int)) (x7_1 : Int), v7 = .int .i64 x7_1 ∧ Aside0 (interlocklaw10_Graph.l0 kq l1 ji3 x6_1 x7_1 = some r) ∧ Aside0 (kq ≤ k) ∧ Aside0 (Kd.S (Kd.slice 3 (Kd.int .i64)) 33 w' w.heap.size (fun _ => True) v145 x6_1) ∧ Aside0 (Below w.heap.size w w'))
 case atStart => exact ⟨(y144), (0), (by first | rfl | (simp; done) | (simp [*]; done)), H', ⟨Nat.le_refl _⟩, ⟨by (with_reducible repeat (first | apply Kd.S_alloc | apply Kd.S_drewN | apply Kd.S_drew)); exact HO146.out⟩, ⟨by repeat (first | (with_reducible first | exact HB.out | apply below_alloc | apply pw_below_drewN | apply below_drew1) | exact HB.out)⟩⟩
 case round => (
 clear H'
 try clear c1
 try clear p2
 try clear c4
 try clear c4b0
 try clear c4b1
 try clear c5
 try clear c5b0
 try clear c5b1
 try clear p6
 obtain ⟨x6_1, x7_1, rfl, HA, HK1, HO_6, HB⟩ := hrel
 cases gk with
 | zero => exact absurd HA.out (by simp [interlocklaw10_Graph.l0])
 | succ k1 => (
 have H := HA.out
 clear HA
 simp only [interlocklaw10_Graph.l0] at H
 by_cases c8 : (wrap64 (x7_1 + 1)) < (l1.length : Int)
 {
 rw [if_pos c8] at H
 have c8b0 : decide ((wrap64 (x7_1 + 1)) < (l1.length : Int)) = true := decide_eq_true c8
 clear c8
 by_cases c9 : x7_1 < 50
 {
 rw [if_pos c9] at H
 have c9b0 : decide (x7_1 < 50) = true := decide_eq_true c9
 clear c9
 by_cases c10 : 0 ≤ x7_1
 {
 rw [if_pos c10] at H
 have c10b0 : decide (0 ≤ x7_1) = true := decide_eq_true c10
 clear c10
 by_cases c11 : x7_1 < (l1.length : Int)
 {
 rw [if_pos c11] at H
 have c11b0 : decide (x7_1 < (l1.length : Int)) = true := decide_eq_true c11
 clear c11
 by_cases c12 : ji3 = 0
 {
 rw [if_pos c12] at H
 exact absurd H (by simp)
 }
 {
 rw [if_neg c12] at H
 have c12b0 : (ji3 == 0) = false := beq_eq_false_iff_ne.mpr c12
 have c12b1 : (ji3 != 0) = true := bne_iff_ne.mpr c12
 obtain ⟨ji13, hji13⟩ : ∃ j_ : Int, (Int.tmod (wrap64 (rd l1 x7_1)) ji3) = j_ := ⟨_, rfl⟩
 replace H : (if 0 ≤ (ji13) then (if (ji13) < (x6_1.length : Int) then (if 0 ≤ (wrap64 (x7_1 + 1)) then (if (wrap64 (ji3 + 2)) = 0 then (none) else (if (rd_L1 x6_1 (ji13)).length < 17592186044416 then (interlocklaw10_Graph.l0 k1 l1 ji3 (x6_1.set ((ji13) : Int).toNat ((rd_L1 x6_1 (ji13)) ++ [wrap64 ((wrap64 ((Int.tmod (wrap64 (rd l1 (wrap64 (x7_1 + 1)))) (wrap64 (ji3 + 2))) - 1)) + ((Int.tdiv (rd l1 x7_1) 240) % 256))])) (wrap64 (x7_1 + 2))) else (none))) else (none)) else (none)) else (none)) = some r := by first | (rw [hji13] at H; exact H) | (simp only [hji13] at H ⊢; exact H)
 have hji13q : Int.tmod (IntKind.i64.wrap (rd l1 x7_1)) ji3 = ji13 := by first | (rw [i64_w]; exact hji13) | (simp only [i64_w]; exact hji13)
 by_cases c14 : 0 ≤ (ji13)
 {
 rw [if_pos c14] at H
 have c14b0 : decide (0 ≤ (ji13)) = true := decide_eq_true c14
 clear c14
 by_cases c15 : (ji13) < (x6_1.length : Int)
 {
 rw [if_pos c15] at H
 have c15b0 : decide ((ji13) < (x6_1.length : Int)) = true := decide_eq_true c15
 clear c15
 obtain ⟨ji16, hji16⟩ : ∃ j_ : Int, (wrap64 (x7_1 + 1)) = j_ := ⟨_, rfl⟩
 replace H : (if 0 ≤ (ji16) then (if (wrap64 (ji3 + 2)) = 0 then (none) else (if (rd_L1 x6_1 (ji13)).length < 17592186044416 then (interlocklaw10_Graph.l0 k1 l1 ji3 (x6_1.set ((ji13) : Int).toNat ((rd_L1 x6_1 (ji13)) ++ [wrap64 ((wrap64 ((Int.tmod (wrap64 (rd l1 (ji16))) (wrap64 (ji3 + 2))) - 1)) + ((Int.tdiv (rd l1 x7_1) 240) % 256))])) (wrap64 (x7_1 + 2))) else (none))) else (none)) = some r := by first | (rw [hji16] at H; exact H) | (simp only [hji16] at H ⊢; exact H)
 (try rw [hji16] at c8b0)
 have hji16w : (IntKind.i64.wrap (x7_1 + 1)) = ji16 := (i64_w _).trans hji16
 by_cases c17 : 0 ≤ (ji16)
 {
 rw [if_pos c17] at H
 have c17b0 : decide (0 ≤ (ji16)) = true := decide_eq_true c17
 clear c17
 by_cases c18 : (wrap64 (ji3 + 2)) = 0
 {
 rw [if_pos c18] at H
 exact absurd H (by simp)
 }
 {
 rw [if_neg c18] at H
 have c18b0 : ((wrap64 (ji3 + 2)) == 0) = false := beq_eq_false_iff_ne.mpr c18
 have c18b1 : ((wrap64 (ji3 + 2)) != 0) = true := bne_iff_ne.mpr c18
 by_cases c19 : (rd_L1 x6_1 (ji13)).length < 17592186044416
 {
 rw [if_pos c19] at H
 have LMc19 := Aside0.mk c19
 clear c19
 obtain ⟨y151, hy151⟩ : ∃ y_ : List Int, y_ = ((rd_L1 x6_1 (ji13)) ++ [wrap64 ((wrap64 ((Int.tmod (wrap64 (rd l1 (ji16))) (wrap64 (ji3 + 2))) - 1)) + ((Int.tdiv (rd l1 x7_1) 240) % 256))]) := ⟨_, rfl⟩
 replace H : (interlocklaw10_Graph.l0 k1 l1 ji3 (x6_1.set ((ji13) : Int).toNat y151) (wrap64 (x7_1 + 2))) = some r := by first | (rw [hy151]; with_reducible exact H) | (have H2_ := (Option.bind_some _ _).symm.trans H; rw [hy151]; with_reducible exact H2_) | (have H2_ := (Option.bind_some _ _).symm.trans H; with_reducible exact H2_) | with_reducible exact H | (rw [hy151]; exact H) | exact H
 have Ny151 := Aside0.mk hy151
 clear hy151
 obtain ⟨y154, hy154⟩ : ∃ y_ : List (List Int), y_ = (x6_1.set ((ji13) : Int).toNat y151) := ⟨_, rfl⟩
 replace H : (interlocklaw10_Graph.l0 k1 l1 ji3 y154 (wrap64 (x7_1 + 2))) = some r := by first | (rw [hy154]; with_reducible exact H) | (have H2_ := (Option.bind_some _ _).symm.trans H; rw [hy154]; with_reducible exact H2_) | (have H2_ := (Option.bind_some _ _).symm.trans H; with_reducible exact H2_) | with_reducible exact H | (rw [hy154]; exact H) | exact H
 have Ny154 := Aside0.mk hy154
 clear hy154
 have H' := Aside0.mk H
 clear H
 have p147 : 0 ≤ (x7_1 : Int) := of_decide_eq_true (by first | (with_reducible assumption) | assumption)
 have q147 : x7_1 < (l1.length : Int) := of_decide_eq_true (by first | (with_reducible assumption) | assumption)
 obtain ⟨ad147, e147, hx147_0⟩ := Kd.at_int HR1.out x7_1 p147 q147
 cases e147
 replace hx147_0 := (HB.out.cell (World.block_lt_of_cell? w _ hx147_0)).trans hx147_0
 replace p147 := eq_true p147
 replace q147 := eq_true q147
 try go_wp2
 have n0_ := Aside0.mk (Kd.S_drew HO_6.out)
 have n1_ := Aside0.mk (below_drew1 HB.out)
 clear HO_6
 clear HB
 have HO_6 := n0_
 have HB := n1_
 clear n0_ n1_
 obtain ⟨Ao22, co22, eo22⟩ := Kd.S_slice HO_6.out
 (first | subst eo22 | (injection eo22 with f1_ f2_ f3_; have f4_ := f1_.symm; have f5_ := f3_.symm; clear f1_ f2_ f3_; subst f4_; subst f5_))
 have p148 : 0 ≤ ((ji13) : Int) := of_decide_eq_true (by first | (with_reducible assumption) | assumption)
 have q148 : (ji13) < (x6_1.length : Int) := of_decide_eq_true (by first | (with_reducible assumption) | assumption)
 obtain ⟨ad148, A148_0, c148_0, e148, hx148_0, hl148_0, hi148_0⟩ := at_L1 (Kd.S_reads' HO_6.out).2.2 (ji13) p148 q148
 cases e148
 obtain ⟨ce148, hce148, hMe148, hcc148⟩ := Kd.S_get HO_6.out [] (ji13) p148 (by first | exact q148 | exact of_decide_eq_true (by first | (with_reducible assumption) | assumption) | (have e_ := (Kd.S_reads' HO_6.out).1; omega))
 obtain ⟨ve148_0, rfl, ge148_0⟩ := hMe148
 have hv148_0 := hcc148 0 _ rfl
 rw [Nat.add_zero, show ((Kd.slice 3 (Kd.int .i64))).sz = 1 from rfl, Nat.mul_one] at hv148_0
 replace hv148_0 := Option.some.inj (hv148_0.symm.trans hx148_0)
 rw [hv148_0] at ge148_0
 have HL148_0 := Aside0.mk (show Kd.R (Kd.int .i64) 3 _ _ _ _ (rd_L1 x6_1 (ji13)) from ge148_0)
 clear hv148_0 ge148_0
 have HX148_0 := Aside0.mk hx148_0
 clear hcc148 hce148
 have HR148_0 := Aside0.mk hi148_0
 have HC148_0 := Aside0.mk hl148_0
 clear hi148_0 hl148_0
 replace p148 := eq_true p148
 replace q148 := eq_true q148
 have p149 : 0 ≤ ((ji16) : Int) := of_decide_eq_true (by first | (with_reducible assumption) | assumption)
 have q149 : (ji16) < (l1.length : Int) := of_decide_eq_true (by first | (with_reducible assumption) | assumption)
 obtain ⟨ad149, e149, hx149_0⟩ := Kd.at_int HR1.out (ji16) p149 q149
 have hw149_0 := hx149_0
 obtain rfl : ad147 = ad149 := (by injection e149)
 replace hx149_0 := (HB.out.cell (World.block_lt_of_cell? w _ hx149_0)).trans hx149_0
 replace p149 := eq_true p149
 replace q149 := eq_true q149
 have p150 : 0 ≤ (x7_1 : Int) := of_decide_eq_true (by first | (with_reducible assumption) | assumption)
 have q150 : x7_1 < (l1.length : Int) := of_decide_eq_true (by first | (with_reducible assumption) | assumption)
 obtain ⟨ad150, e150, hx150_0⟩ := Kd.at_int HR1.out x7_1 p150 q150
 have hw150_0 := hx150_0
 obtain rfl : ad147 = ad150 := (by injection e150)
 replace hx150_0 := (HB.out.cell (World.block_lt_of_cell? w _ hx150_0)).trans hx150_0
 replace p150 := eq_true p150
 replace q150 := eq_true q150
 obtain ⟨go23, co23, eo23, gb23, gl23, cl23, HG23⟩ := Kd.S_form HO_6.out (by have h_ : ((ji13) : Int) < ((x6_1.length : Int) : Int) := of_decide_eq_true (by first | (with_reducible assumption) | assumption); have h2_ : 0 ≤ ((ji13) : Int) := (of_decide_eq_true (by first | (with_reducible assumption) | assumption)); omega)
 (first | cases eo23 | (injection eo23 with ea_ en_ ec_; (first | subst ea_ | (injection ea_ with ea_; subst ea_)); subst ec_; clear en_))
 have GB23 := Aside0.mk gb23
 have GG23 := Aside0.mk HG23
 clear gb23 gl23 HG23
 (first | simp only [add_plain] at hx148_0 | skip)
 obtain ⟨oki23, ce23, hcl23, hM23, hcc23, _, _, hH23⟩ := Kd.S_elem HO_6.out [] ((ji13) : Int) (of_decide_eq_true (by first | (with_reducible assumption) | assumption)) (by have h_ : ((ji13) : Int) < ((x6_1.length : Int) : Int) := of_decide_eq_true (by first | (with_reducible assumption) | assumption); first | exact h_ | (have e_ := (Kd.S_reads' HO_6.out).1; omega) | simpa using h_)
 obtain ⟨ve23_0, rfl, ge23_0⟩ := hM23
 have hv23 := hcc23 0 _ rfl
 have hX23 := HX148_0.out
 (try simp only [add_plain] at hX23)
 (try simp only [Nat.add_zero] at hv23)
 (try rw [show ((Kd.slice 3 (Kd.int .i64))).sz = 1 from rfl, Nat.mul_one] at hv23)
 replace hv23 := Option.some.inj (hv23.symm.trans hX23)
 subst hv23
 clear hX23 hcc23 hcl23
 have UU23 := Aside0.mk (show Kd.R (Kd.int .i64) 3 _ w.heap.size oki23 (.slice A148_0 (rd_L1 x6_1 (ji13)).length c148_0) (rd_L1 x6_1 (ji13)) from ge23_0)
 have HH23 := Aside0.mk hH23
 have HN23 := Aside0.mk (Kd.S_reads' HO_6.out).1
 clear hH23 ge23_0
 refine start_ (n := 27) (S := fun w' => w'.cell? ⟨go23, ((ji13)).toNat, none⟩ = some (.slice A148_0 (rd_L1 x6_1 (ji13)).length c148_0) ∧ w'.cell? (ad147.add ((ji16)).toNat) = some (.int .u8 (rd l1 (ji16))) ∧ w'.cell? (ad147.add (x7_1).toNat) = some (.int .u8 (rd l1 x7_1))) (ds := [26]) #[false, false, false, false, false, false, false, false, false, false, false, false, false, false, false, false, false, false, false, false, false, false, false, false, false, false, false] (by kernel_rfl) rfl rfl ⟨hx148_0, ((HB.out.cell (World.block_lt_of_cell? w _ hw149_0)).trans hw149_0), ((HB.out.cell (World.block_lt_of_cell? w _ hw150_0)).trans hw150_0)⟩ (fun hHeld => ?_); refine with_tabW interlocklaw10_Graph.tab7 interlocklaw10_Graph.bits7 (fun HT_ HW_ => ?_)
 generalize wr.drew = w21 at HO_6 HB GG23 HH23 HL148_0 HR148_0 HX148_0 UU23 hx148_0 hx149_0 hx150_0 hHeld ⊢
 refine pure_ (i := 0) (N := some 33) (v := ?_) (a' := ?_) #[true, false, false, false, false, false, false, false, false, false, false, false, false, false, false, false, false, false, false, false, false, false, false, false, false, false, false] rfl rfl (any_of HT_.out (by kernel_rfl)) (fun _ _ _ h => h) (Or.inl ⟨by rfl, ?_⟩) ?_ ?_
 rotate_left
 {
 intro w'
 go_simp
 with_reducible rfl
 }
 rotate_left
 {
 simp only [Act.put, sT_, sZ_, sS_, i64_w, i32_w, u8q_]
 rfl
 }
 refine pure_ (i := 1) (N := some 34) (v := ?_) (a' := ?_) #[true, true, false, false, false, false, false, false, false, false, false, false, false, false, false, false, false, false, false, false, false, false, false, false, false, false, false] rfl rfl (any_of HT_.out (by kernel_rfl)) (fun _ _ _ h => h) (Or.inl ⟨by rfl, ?_⟩) ?_ ?_
 rotate_left
 {
 intro w'
 go_simp
 with_reducible rfl
 }
 rotate_left
 {
 simp only [Act.put, sT_, sZ_, sS_, i64_w, i32_w, u8q_]
 rfl
 }
 refine pure_ (i := 2) (N := some 35) (v := ?_) (a' := ?_) #[true, true, true, false, false, false, false, false, false, false, false, false, false, false, false, false, false, false, false, false, false, false, false, false, false, false, false] rfl rfl (any_of HT_.out (by kernel_rfl)) (fun _ _ _ h => h) (Or.inl ⟨by rfl, ?_⟩) ?_ ?_
 rotate_left
 {
 intro w'
 go_simp
 with_reducible rfl
 }
 rotate_left
 {
 simp only [Act.put, sT_, sZ_, sS_, i64_w, i32_w, u8q_]
 rfl
 }
 refine pure_ (i := 3) (N := some 36) (v := ?_) (a' := ?_) #[true, true, true, true, false, false, false, false, false, false, false, false, false, false, false, false, false, false, false, false, false, false, false, false, false, false, false] rfl rfl (any_of HT_.out (by kernel_rfl)) (fun _ _ _ h => h) (Or.inl ⟨by rfl, ?_⟩) ?_ ?_
 rotate_left
 {
 intro w'
 go_simp
 with_reducible rfl
 }
 rotate_left
 {
 simp only [Act.put, sT_, sZ_, sS_, i64_w, i32_w, u8q_]
 rfl
 }
 refine pure_ (i := 4) (N := some 37) (v := ?_) (a' := ?_) #[true, true, true, true, true, false, false, false, false, false, false, false, false, false, false, false, false, false, false, false, false, false, false, false, false, false, false] rfl rfl (any_of HT_.out (by kernel_rfl)) (fun _ _ _ h => h) (Or.inl ⟨by rfl, ?_⟩) ?_ ?_
 rotate_left
 {
 intro w'
 go_simp
 with_reducible rfl
 }
 rotate_left
 {
 simp only [Act.put, sT_, sZ_, sS_, i64_w, i32_w, u8q_]
 rfl
 }
 refine pure_ (i := 6) (N := some 39) (v := ?_) (a' := ?_) #[true, true, true, true, true, false, true, false, false, false, false, false, false, false, false, false, false, false, false, false, false, false, false, false, false, false, false] rfl rfl (any_of HT_.out (by kernel_rfl)) (fun _ _ _ h => h) (Or.inl ⟨by rfl, ?_⟩) ?_ ?_
 rotate_left
 {
 intro w'
 go_simp
 with_reducible rfl
 }
 rotate_left
 {
 simp only [Act.put, sT_, sZ_, sS_, i64_w, i32_w, u8q_]
 rfl
 }
 refine pure_ (i := 7) (N := some 40) (v := ?_) (a' := ?_) #[true, true, true, true, true, false, true, true, false, false, false, false, false, false, false, false, false, false, false, false, false, false, false, false, false, false, false] rfl rfl (any_of HT_.out (by kernel_rfl)) (fun _ _ _ h => h) (Or.inl ⟨by rfl, ?_⟩) ?_ ?_
 rotate_left
 {
 intro w'
 go_simp
 with_reducible rfl
 }
 rotate_left
 {
 simp only [Act.put, sT_, sZ_, sS_, i64_w, i32_w, u8q_]
 rfl
 }
 refine pure_ (i := 8) (N := some 41) (v := ?_) (a' := ?_) #[true, true, true, true, true, false, true, true, true, false, false, false, false, false, false, false, false, false, false, false, false, false, false, false, false, false, false] rfl rfl (any_of HT_.out (by kernel_rfl)) (fun _ _ _ h => h) (Or.inl ⟨by rfl, ?_⟩) ?_ ?_
 rotate_left
 {
 intro w'
 go_simp
 with_reducible rfl
 }
 rotate_left
 {
 simp only [Act.put, sT_, sZ_, sS_, i64_w, i32_w, u8q_]
 rfl
 }
 refine pure_ (i := 9) (N := some 42) (v := ?_) (a' := ?_) #[true, true, true, true, true, false, true, true, true, true, false, false, false, false, false, false, false, false, false, false, false, false, false, false, false, false, false] rfl rfl (any_of HT_.out (by kernel_rfl)) (fun _ _ _ h => h) (Or.inl ⟨by rfl, ?_⟩) ?_ ?_
 rotate_left
 {
 intro w'
 go_simp
 with_reducible rfl
 }
 rotate_left
 {
 simp only [Act.put, sT_, sZ_, sS_, i64_w, i32_w, u8q_]
 rfl
 }
 refine pure_ (i := 12) (N := some 45) (v := ?_) (a' := ?_) #[true, true, true, true, true, false, true, true, true, true, false, false, true, false, false, false, false, false, false, false, false, false, false, false, false, false, false] rfl rfl (any_of HT_.out (by kernel_rfl)) (fun _ _ _ h => h) (Or.inl ⟨by rfl, ?_⟩) ?_ ?_
 rotate_left
 {
 intro w'
 go_simp
 with_reducible rfl
 }
 rotate_left
 {
 simp only [Act.put, sT_, sZ_, sS_, i64_w, i32_w, u8q_]
 rfl
 }
 refine pure_ (i := 13) (N := some 46) (v := ?_) (a' := ?_) #[true, true, true, true, true, false, true, true, true, true, false, false, true, true, false, false, false, false, false, false, false, false, false, false, false, false, false] rfl rfl (any_of HT_.out (by kernel_rfl)) (fun _ _ _ h => h) (Or.inl ⟨by rfl, ?_⟩) ?_ ?_
 rotate_left
 {
 intro w'
 go_simp
 with_reducible rfl
 }
 rotate_left
 {
 simp only [Act.put, sT_, sZ_, sS_, i64_w, i32_w, u8q_]
 rfl
 }
 refine pure_ (i := 16) (N := some 49) (v := ?_) (a' := ?_) #[true, true, true, true, true, false, true, true, true, true, false, false, true, true, false, false, true, false, false, false, false, false, false, false, false, false, false] rfl rfl (any_of HT_.out (by kernel_rfl)) (fun _ _ _ h => h) (Or.inl ⟨by rfl, ?_⟩) ?_ ?_
 rotate_left
 {
 intro w'
 go_simp
 with_reducible rfl
 }
 rotate_left
 {
 simp only [Act.put, sT_, sZ_, sS_, i64_w, i32_w, u8q_]
 rfl
 }
 refine pure_ (i := 17) (N := some 50) (v := ?_) (a' := ?_) #[true, true, true, true, true, false, true, true, true, true, false, false, true, true, false, false, true, true, false, false, false, false, false, false, false, false, false] rfl rfl (any_of HT_.out (by kernel_rfl)) (fun _ _ _ h => h) (Or.inl ⟨by rfl, ?_⟩) ?_ ?_
 rotate_left
 {
 intro w'
 go_simp
 with_reducible rfl
 }
 rotate_left
 {
 simp only [Act.put, sT_, sZ_, sS_, i64_w, i32_w, u8q_]
 rfl
 }
 refine pure_ (i := 18) (N := some 51) (v := ?_) (a' := ?_) #[true, true, true, true, true, false, true, true, true, true, false, false, true, true, false, false, true, true, true, false, false, false, false, false, false, false, false] rfl rfl (any_of HT_.out (by kernel_rfl)) (fun _ _ _ h => h) (Or.inl ⟨by rfl, ?_⟩) ?_ ?_
 rotate_left
 {
 intro w'
 go_simp
 with_reducible rfl
 }
 rotate_left
 {
 simp only [Act.put, sT_, sZ_, sS_, i64_w, i32_w, u8q_]
 rfl
 }
 refine take_ (i := 5) (N := some 38) (v := ?_) (a' := ?_) #[true, true, true, true, true, true, true, true, true, true, false, false, true, true, false, false, true, true, true, false, false, false, false, false, false, false, false] rfl rfl (take_ofW HT_.out HW_.out (by kernel_rfl)) (fun _ _ _ h => h) (Or.inl ⟨by rfl, ?_⟩) hHeld ?_ ?_
 rotate_left
 {
 rintro w' ⟨s0, s1, s2⟩
 go_simp
 with_reducible rfl
 }
 rotate_left
 {
 simp only [Act.put, sT_, sZ_, sS_, i64_w, i32_w, u8q_]
 rfl
 }
 refine take_ (i := 10) (N := some 43) (v := ?_) (a' := ?_) #[true, true, true, true, true, true, true, true, true, true, true, false, true, true, false, false, true, true, true, false, false, false, false, false, false, false, false] rfl rfl (take_ofW HT_.out HW_.out (by kernel_rfl)) (fun _ _ _ h => h) (Or.inl ⟨by rfl, ?_⟩) hHeld ?_ ?_
 rotate_left
 {
 rintro w' ⟨s0, s1, s2⟩
 go_simp
 with_reducible rfl
 }
 rotate_left
 {
 simp only [Act.put, sT_, sZ_, sS_, i64_w, i32_w, u8q_]
 rfl
 }
 refine pure_ (i := 11) (N := some 44) (v := ?_) (a' := ?_) #[true, true, true, true, true, true, true, true, true, true, true, true, true, true, false, false, true, true, true, false, false, false, false, false, false, false, false] rfl rfl (any_of HT_.out (by kernel_rfl)) (fun _ _ _ h => h) (Or.inl ⟨by rfl, ?_⟩) ?_ ?_
 rotate_left
 {
 intro w'
 go_simp
 with_reducible rfl
 }
 rotate_left
 {
 simp only [Act.put, sT_, sZ_, sS_, i64_w, i32_w, u8q_]
 rfl
 }
 refine pure_ (i := 14) (N := some 47) (v := ?_) (a' := ?_) #[true, true, true, true, true, true, true, true, true, true, true, true, true, true, true, false, true, true, true, false, false, false, false, false, false, false, false] rfl rfl (any_of HT_.out (by kernel_rfl)) (fun _ _ _ h => h) (Or.inl ⟨by rfl, ?_⟩) ?_ ?_
 rotate_left
 {
 intro w'
 go_simp
 with_reducible rfl
 }
 rotate_left
 {
 simp only [Act.put, sT_, sZ_, sS_, i64_w, i32_w, u8q_]
 rfl
 }
 refine pure_ (i := 15) (N := some 48) (v := ?_) (a' := ?_) #[true, true, true, true, true, true, true, true, true, true, true, true, true, true, true, true, true, true, true, false, false, false, false, false, false, false, false] rfl rfl (any_of HT_.out (by kernel_rfl)) (fun _ _ _ h => h) (Or.inl ⟨by rfl, ?_⟩) ?_ ?_
 rotate_left
 {
 intro w'
 go_simp
 with_reducible rfl
 }
 rotate_left
 {
 simp only [Act.put, sT_, sZ_, sS_, i64_w, i32_w, u8q_]
 rfl
 }
 refine take_ (i := 19) (N := some 52) (v := ?_) (a' := ?_) #[true, true, true, true, true, true, true, true, true, true, true, true, true, true, true, true, true, true, true, true, false, false, false, false, false, false, false] rfl rfl (take_ofW HT_.out HW_.out (by kernel_rfl)) (fun _ _ _ h => h) (Or.inl ⟨by rfl, ?_⟩) hHeld ?_ ?_
 rotate_left
 {
 rintro w' ⟨s0, s1, s2⟩
 go_simp
 with_reducible rfl
 }
 rotate_left
 {
 simp only [Act.put, sT_, sZ_, sS_, i64_w, i32_w, u8q_]
 rfl
 }
 refine pure_ (i := 20) (N := some 53) (v := ?_) (a' := ?_) #[true, true, true, true, true, true, true, true, true, true, true, true, true, true, true, true, true, true, true, true, true, false, false, false, false, false, false] rfl rfl (any_of HT_.out (by kernel_rfl)) (fun _ _ _ h => h) (Or.inl ⟨by rfl, ?_⟩) ?_ ?_
 rotate_left
 {
 intro w'
 go_simp
 with_reducible rfl
 }
 rotate_left
 {
 simp only [Act.put, sT_, sZ_, sS_, i64_w, i32_w, u8q_]
 rfl
 }
 refine pure_ (i := 21) (N := some 54) (v := ?_) (a' := ?_) #[true, true, true, true, true, true, true, true, true, true, true, true, true, true, true, true, true, true, true, true, true, true, false, false, false, false, false] rfl rfl (any_of HT_.out (by kernel_rfl)) (fun _ _ _ h => h) (Or.inl ⟨by rfl, ?_⟩) ?_ ?_
 rotate_left
 {
 intro w'
 go_simp
 with_reducible rfl
 }
 rotate_left
 {
 simp only [Act.put, sT_, sZ_, sS_, i64_w, i32_w, u8q_]
 rfl
 }
 refine pure_ (i := 22) (N := some 55) (v := ?_) (a' := ?_) #[true, true, true, true, true, true, true, true, true, true, true, true, true, true, true, true, true, true, true, true, true, true, true, false, false, false, false] rfl rfl (any_of HT_.out (by kernel_rfl)) (fun _ _ _ h => h) (Or.inl ⟨by rfl, ?_⟩) ?_ ?_
 rotate_left
 {
 intro w'
 go_simp
 with_reducible rfl
 }
 rotate_left
 {
 simp only [Act.put, sT_, sZ_, sS_, i64_w, i32_w, u8q_]
 rfl
 }
 refine one_ (i := 23) (N := some 56) #[true, true, true, true, true, true, true, true, true, true, true, true, true, true, true, true, true, true, true, true, true, true, true, true, false, false, false] rfl rfl (one_of HT_.out (by kernel_rfl)) (by decide) (fun K hK => ?_)
 refine value_ (w1 := ?_) (v := ?_) (by rfl) rfl ?_ ?_
 rotate_left 2
 {
 go_simp
 constructor
 {
 rfl
 }
 {
 rfl
 }
 }
 refine hK.out _ _ ⟨(World.cell?_alloc_lt _ _ _ (World.block_lt_of_cell? _ _ (hHeld.1))).trans (hHeld.1), (World.cell?_alloc_lt _ _ _ (World.block_lt_of_cell? _ _ (((HB.out.cell (World.block_lt_of_cell? w _ hw149_0)).trans hw149_0)))).trans (((HB.out.cell (World.block_lt_of_cell? w _ hw149_0)).trans hw149_0)), (World.cell?_alloc_lt _ _ _ (World.block_lt_of_cell? _ _ (((HB.out.cell (World.block_lt_of_cell? w _ hw150_0)).trans hw150_0)))).trans (((HB.out.cell (World.block_lt_of_cell? w _ hw150_0)).trans hw150_0))⟩ (fun hHeld => ?_)
 clear hK K
 refine norm_ (a' := ?_) ?_ ?_
 rotate_left
 {
 show Act.put _ (some 56) _ = _
 simp only [Act.put, sT_, sZ_, sS_, i64_w, i32_w, u8q_]
 rfl
 }
 refine one_ (i := 24) (N := some 57) #[true, true, true, true, true, true, true, true, true, true, true, true, true, true, true, true, true, true, true, true, true, true, true, true, true, false, false] rfl rfl (one_of HT_.out (by kernel_rfl)) (by decide) (fun K hK => ?_)
 refine Kd.R_append_step (Kd.int .i64) (w0 := w) w.heap.size (by rfl) (.tmp 38) (.tmp 56) 33 3 (.int .i64 0) 8 rfl Try.underlying33 info3 rfl (by decide) (by omega) (.slice A148_0 (rd_L1 x6_1 (ji13)).length c148_0) (rd_L1 x6_1 (ji13)) (wrap64 ((wrap64 ((Int.tmod (wrap64 (rd l1 (ji16))) (wrap64 (ji3 + 2))) - 1)) + ((Int.tdiv (rd l1 x7_1) 240) % 256))) [.int .i64 (wrap64 ((wrap64 ((Int.tmod (wrap64 (rd l1 (ji16))) (wrap64 (ji3 + 2))) - 1)) + ((Int.tdiv (rd l1 x7_1) 240) % 256)))] (fun k_ => oki23 k_ ∨ ((fun _ => True)) k_ ∧ w21.heap.size ≤ k_) (fun _ => False) rfl rfl ?aP (fun _ hk => hk.elim) ?aF ?aO ?aB ?aS ?aL ?_
 (case aP => exact rfl)
 (case aB => exact (by repeat (first | (with_reducible first | exact HB.out | apply below_alloc | apply pw_below_drewN | apply below_drew1) | exact HB.out)))
 (case aF => exact (fun k_ hk => .inr ⟨trivial, hk⟩))
 (case aO => exact (by (with_reducible repeat (first | apply Kd.R_alloc | apply Kd.R_drewN | apply Kd.R_drew)); exact Kd.R_mono UU23.out (fun _ hk => .inl hk)))
 (case aS => exact (below_size (by repeat (first | (with_reducible first | exact HB.out | apply below_alloc | apply pw_below_drewN | apply below_drew1) | exact HB.out))))
 (case aL => have := LMc19.out; omega)
 intro v152 w24 ho hb hg hat
 (first | have HS0_ := cell_grown hg (hHeld.1) (by first | (rw [add_block]; exact (fun e_ => ((HL148_0.out.1 _ e_.symm).2) rfl)) | (show some (Addr.add _ _).block ≠ _; rw [add_block]; exact (fun e_ => ((HL148_0.out.1 _ e_.symm).2) rfl)) | exact (fun e_ => ((HL148_0.out.1 _ e_.symm).2) rfl)) | have HS0_ := cell_grown hg (cell_unalloc (hHeld.1) (by first | (rw [add_block]; exact Kd.S_lt HO_6.out _ rfl) | (show (Addr.add _ _).block < _; rw [add_block]; exact Kd.S_lt HO_6.out _ rfl) | exact Kd.S_lt HO_6.out _ rfl)) (by first | (rw [add_block]; exact (fun e_ => ((HL148_0.out.1 _ e_.symm).2) rfl)) | (show some (Addr.add _ _).block ≠ _; rw [add_block]; exact (fun e_ => ((HL148_0.out.1 _ e_.symm).2) rfl)) | exact (fun e_ => ((HL148_0.out.1 _ e_.symm).2) rfl)))
 rw [← Ny151.out] at ho
 have n0_ := Aside0.mk (hb)
 have n1_ := Aside0.mk (Kd.H_grown (Kd.H_widen (by repeat (first | exact HH23.out | refine Kd.H_alloc ?_ _ | refine Kd.H_drewN ?_ _ | refine Kd.H_drew ?_))) hg (fun k_ e_ => .inl (UU23.out.1 k_ e_)))
 have n2_ := Aside0.mk (ho)
 clear HB
 clear HH23
 clear HO_6
 clear UU23
 clear HL148_0
 have HB := n0_
 have HH23 := n1_
 have HO153 := n2_
 clear n0_ n1_ n2_
 clear ho hb hg hat
 have p20 : 0 ≤ ((ji13) : Int) := of_decide_eq_true (by first | (with_reducible assumption) | assumption)
 have q20 : ((ji13) : Int) < ((x6_1.length : Int) : Int) := of_decide_eq_true (by first | (with_reducible assumption) | assumption)
 replace p20 := eq_true p20
 replace q20 := eq_true q20
 obtain ⟨Ao27, co27, eo27⟩ := Kd.R_slice HO153.out
 (first | subst eo27 | (injection eo27 with f1_ f2_ f3_; have f4_ := f1_.symm; have f5_ := f3_.symm; clear f1_ f2_ f3_; subst f4_; subst f5_))
 obtain ⟨_, _, hraw25, _, _, hcc25, _⟩ := Kd.H_raw HH23.out (of_decide_eq_true (by first | (with_reducible assumption) | assumption)) (by have h_ : ((ji13) : Int) < ((x6_1.length : Int) : Int) := of_decide_eq_true (by first | (with_reducible assumption) | assumption); first | exact h_ | (have e_ := (HN23.out); omega) | simpa using h_)
 obtain ⟨_, hfr25⟩ := Kd.H_at HH23.out (of_decide_eq_true (by first | (with_reducible assumption) | assumption)) (by have h_ : ((ji13) : Int) < ((x6_1.length : Int) : Int) := of_decide_eq_true (by first | (with_reducible assumption) | assumption); first | exact h_ | (have e_ := (HN23.out); omega) | simpa using h_)
 have hx25_0 := hcc25 0 _ rfl
 have hf25_0 := hfr25 0
 (try simp only [Nat.add_zero] at hx25_0 hf25_0)
 (try rw [show ((Kd.slice 3 (Kd.int .i64))).sz = 1 from rfl, Nat.mul_one] at hx25_0)
 (try rw [show ((Kd.slice 3 (Kd.int .i64))).sz = 1 from rfl, Nat.mul_one] at hf25_0)
 have HP25 := Kd.S_seg0 HH23.out (of_decide_eq_true (by first | (with_reducible assumption) | assumption)) (by have h_ : ((ji13) : Int) < ((x6_1.length : Int) : Int) := of_decide_eq_true (by first | (with_reducible assumption) | assumption); first | exact h_ | (have e_ := (HN23.out); omega) | simpa using h_) (seg := [.slice Ao27 y151.length co27]) (j := 0) (show 1 ≤ 1 from by decide) (x' := y151) (Kd.M_row HO153.out) (fun _ hk => hk)
 (try simp only [show ((Kd.slice 3 (Kd.int .i64))).sz = 1 from rfl, Nat.mul_one, Nat.add_zero] at HP25)
 clear hcc25 hfr25
 have HS25 := HP25.1
 rw [← Ny154.out] at HS25
 have HQ25 := Aside0.mk HS25
 obtain ⟨_, hgg25⟩ := Kd.R_typed hraw25 go23 rfl
 have GG25_ := Aside0.mk hgg25
 clear HP25 HS25 hgg25
 refine hK.out _ _ ⟨HS0_, ((HB.out.cell (World.block_lt_of_cell? w _ hw149_0)).trans hw149_0), ((HB.out.cell (World.block_lt_of_cell? w _ hw150_0)).trans hw150_0)⟩ (fun hHeld => ?_)
 clear hK K
 refine norm_ (a' := ?_) ?_ ?_
 rotate_left
 {
 show Act.put _ (some 57) _ = _
 simp only [Act.put, sT_, sZ_, sS_, i64_w, i32_w, u8q_]
 rfl
 }
 refine pure_ (i := 25) (N := some 58) (v := ?_) (a' := ?_) #[true, true, true, true, true, true, true, true, true, true, true, true, true, true, true, true, true, true, true, true, true, true, true, true, true, true, false] rfl rfl (any_of HT_.out (by kernel_rfl)) (fun _ _ _ h => h) (Or.inl ⟨by rfl, ?_⟩) ?_ ?_
 rotate_left
 {
 intro w'
 go_simp
 with_reducible rfl
 }
 rotate_left
 {
 simp only [Act.put, sT_, sZ_, sS_, i64_w, i32_w, u8q_]
 rfl
 }
 refine last_ (i := 26) (N := none) #[true, true, true, true, true, true, true, true, true, true, true, true, true, true, true, true, true, true, true, true, true, true, true, true, true, true, true] rfl rfl (one_of HT_.out (by kernel_rfl)) (by decide) (fun K hK => ?_)
 refine skip_ (w1 := ?_) (by rfl) rfl ?_ ?_
 rotate_left
 {
 go_simp
 rfl
 }
 refine hK.out _ _ ?_
 clear hK K
 refine done_ (done_of HT_.out (by kernel_rfl)) ?_
 try go_wp2
 go_roundg k1
 case measure => have := HK1.out; omega
 case rel => exact ⟨(y154), (wrap64 (x7_1 + 2)), (by first | rfl | (simp; done) | (simp [*]; done)), H', ⟨by have := HK1.out; omega⟩, ⟨by (with_reducible repeat (first | apply Kd.S_alloc | apply Kd.S_drewN | apply Kd.S_drew)); exact HQ25.out⟩, ⟨by repeat (first | (with_reducible first | exact HB.out | apply below_alloc | apply pw_below_drewN | apply below_drew1 | refine below_set ?_ GB23.out) | exact HB.out)⟩⟩
 }
 {
 rw [if_neg c19] at H
 exact absurd H (by simp)
 }
 }
 }
 {
 rw [if_neg c17] at H
 exact absurd H (by simp)
 }
 }
 {
 rw [if_neg c15] at H
 exact absurd H (by simp)
 }
 }
 {
 rw [if_neg c14] at H
 exact absurd H (by simp)
 }
 }
 }
 {
 rw [if_neg c11] at H
 exact absurd H (by simp)
 }
 }
 {
 rw [if_neg c10] at H
 exact absurd H (by simp)
 }
 }
 {
 rw [if_neg c9] at H
 have c9b0 : decide (x7_1 < 50) = false := decide_eq_false c9
 clear c9
 obtain rfl := Option.some.inj H
 go_wp2
 go_ret
 exact ⟨_, by first | rfl | (simp [errW_none, errW_some] <;> rfl) | (simp only [← hji3]; first | rfl | (simp [errW_none, errW_some] <;> rfl)) | (simp [*, errW_none, errW_some] <;> rfl), by (with_reducible repeat (first | apply Kd.S_alloc | apply Kd.S_drewN | apply Kd.S_drew)); exact HO_6.out, by repeat (first | (with_reducible first | exact HB.out | apply below_alloc | apply pw_below_drewN | apply below_drew1) | exact HB.out)⟩
 }
 }
 {
 rw [if_neg c8] at H
 have c8b0 : decide ((wrap64 (x7_1 + 1)) < (l1.length : Int)) = false := decide_eq_false c8
 clear c8
 obtain rfl := Option.some.inj H
 go_wp2
 go_ret
 exact ⟨_, by first | rfl | (simp [errW_none, errW_some] <;> rfl) | (simp only [← hji3]; first | rfl | (simp [errW_none, errW_some] <;> rfl)) | (simp [*, errW_none, errW_some] <;> rfl), by (with_reducible repeat (first | apply Kd.S_alloc | apply Kd.S_drewN | apply Kd.S_drew)); exact HO_6.out, by repeat (first | (with_reducible first | exact HB.out | apply below_alloc | apply pw_below_drewN | apply below_drew1) | exact HB.out)⟩
 }
 )
 )
 }
 {
 rw [if_neg c5] at H
 exact absurd H (by simp)
 }
 }
 {
 rw [if_neg c4] at H
 exact absurd H (by simp)
 }
/-! ### interlocklaw13_Problem: function 12 -/
def mOf (a : Int) : Bool := Int.tmod a 2 == 0
def bOf (a : Int) : Bool := (Int.tdiv a 2) % 2 == 0
set_option maxHeartbeats 2000000 in
set_option maxRecDepth 100000 in
theorem prob_any (k : Nat) (a0 : Int) (A1 : Option Addr) (c1 : Nat) (l1 : List Int) (A2 A3 : Option Addr) (n2 c2 n3 c3 : Nat) (a4 a5 : Int) (g : List (List Int)) (w : World) (hr1 : Kd.C (Kd.int .u8) w A1 l1.length l1) (hc1 : l1.length ≤ c1) (hG : interlocklaw10_Graph.f k a0 l1 = some g) :
    Calls Try.prog 12 #[.int .u8 a0, .slice A1 l1.length c1, .slice A2 n2 c2, .slice A3 n3 c3, .int .u64 a4, .int .u8 a5] w fun e w' => ∃ A c, e = .returned (.agg #[.slice A g.length c, .slice A2 n2 c2, .slice A3 n3 c3, .int .u64 a4, .bool (mOf a5), .bool (bOf a5)]) ∧ g.length ≤ c ∧ Kd.C (Kd.slice 3 (Kd.int .i64)) w' A g.length g ∧ Below w.heap.size w w' := by
  have HR1 := Aside0.mk hr1
  have HC1 := Aside0.mk hc1
  have HG := Aside0.mk hG
  have HB := Aside0.mk (Below.refl w.heap.size w)
  clear hr1 hc1 hG
  go_enter Try.func12, Try.ntmps12
  go_wp2_with (first | ((with_reducible refine gate_dst (N := 12) rfl ?_); refine box_event ?hg (N := 12) ?hd (cs := #[.slice none 0 0, .slice none 0 0, .slice none 0 0, .int .u64 0, .bool false, .bool false]) (t := 31) ?hr ?_; (case hd => rfl); (case hg => rfl); (case hr => first | (go_simp; done) | (go_simp; rfl)); intro gb hg w8 hbox hb; have HX := Aside0.mk hbox; have HB8 := Aside0.mk hb; have HGE := Aside0.mk (show w.heap.size ≤ gb by rw [hg]; exact Nat.le_refl _); clear hg hbox hb) | (go_at_call 9; (with_reducible refine (interlocklaw10_Graph.calls k a0 _ _ l1 g _ ?side1 ?side2 HG.out).mono ?_); (case side1 => exact Kd.C_below HR1.out HB8.out); (case side2 => exact HC1.out); rintro e w9 ⟨v9, rfl, ho, hb⟩; replace ho := Kd.S_R ho; obtain ⟨A9, c9, e9, hc9, _⟩ := Kd.R_reads ho; subst e9; have HO := Aside0.mk ho; have HC9 := Aside0.mk hc9; have HX9 := Aside0.mk (blk_below HX.out hb); have HB9 := Aside0.mk (below_step HB8.out hb); have HLT := Aside0.mk (blk_lt HX.out); clear ho hb hc9; have hz0 := (blk_cell HX9.out 0).trans rfl; have hz1 := (blk_cell HX9.out 1).trans rfl; have hz2 := (blk_cell HX9.out 2).trans rfl; have hz3 := (blk_cell HX9.out 3).trans rfl; have hz4 := (blk_cell HX9.out 4).trans rfl; have hz5 := (blk_cell HX9.out 5).trans rfl; have hf0 := blk_frozen HX9.out 0; have hf1 := blk_frozen HX9.out 1; have hf2 := blk_frozen HX9.out 2; have hf3 := blk_frozen HX9.out 3; have hf4 := blk_frozen HX9.out 4; have hf5 := blk_frozen HX9.out 5))
  have HBX := Aside0.mk (blk_put (cs := #[.slice A9 g.length c9, .slice A2 n2 c2, .slice A3 n3 c3, .int .u64 a4, .bool (Int.tmod a5 2 == 0), .bool false]) (blk_put (cs := #[.slice A9 g.length c9, .slice A2 n2 c2, .slice A3 n3 c3, .int .u64 a4, .bool false, .bool false]) (blk_put (cs := #[.slice A9 g.length c9, .slice A2 n2 c2, .slice A3 n3 c3, .int .u64 0, .bool false, .bool false]) (blk_put (cs := #[.slice A9 g.length c9, .slice A2 n2 c2, .slice none 0 0, .int .u64 0, .bool false, .bool false]) (blk_put (cs := #[.slice A9 g.length c9, .slice none 0 0, .slice none 0 0, .int .u64 0, .bool false, .bool false]) (blk_put (cs := #[.slice none 0 0, .slice none 0 0, .slice none 0 0, .int .u64 0, .bool false, .bool false]) HX9.out 0 (.slice A9 g.length c9) rfl) 1 (.slice A2 n2 c2) rfl) 2 (.slice A3 n3 c3) rfl) 3 (.int .u64 a4) rfl) 4 (.bool (Int.tmod a5 2 == 0)) rfl) 5 (.bool ((Int.tdiv a5 2) % 2 == 0)) rfl)
  have HRX := Aside0.mk (Kd.R_far (p := ⟨gb, 5, none⟩) (Kd.R_far (p := ⟨gb, 4, none⟩) (Kd.R_far (p := ⟨gb, 3, none⟩) (Kd.R_far (p := ⟨gb, 2, none⟩) (Kd.R_far (p := ⟨gb, 1, none⟩) (Kd.R_far (p := ⟨gb, 0, none⟩) (Kd.R_mono (Kd.R_bound HO.out) (fun k hk => (show k ≠ gb by have h1 := hk.2.1; have h2 := HLT.out; omega))) (fun _ hk => hk) (.slice A9 g.length c9)) (fun _ hk => hk) (.slice A2 n2 c2)) (fun _ hk => hk) (.slice A3 n3 c3)) (fun _ hk => hk) (.int .u64 a4)) (fun _ hk => hk) (.bool (Int.tmod a5 2 == 0))) (fun _ hk => hk) (.bool ((Int.tdiv a5 2) % 2 == 0)))
  have HBB : Aside0 (Below w.heap.size w ((((((w9.setCell ⟨gb, 0, none⟩ (.slice A9 g.length c9)).setCell ⟨gb, 1, none⟩ (.slice A2 n2 c2)).setCell ⟨gb, 2, none⟩ (.slice A3 n3 c3)).setCell ⟨gb, 3, none⟩ (.int .u64 a4)).setCell ⟨gb, 4, none⟩ (.bool (Int.tmod a5 2 == 0))).setCell ⟨gb, 5, none⟩ (.bool ((Int.tdiv a5 2) % 2 == 0)))) := ⟨(below_set (below_set (below_set (below_set (below_set (below_set HB9.out HGE.out) HGE.out) HGE.out) HGE.out) HGE.out) HGE.out)⟩
  refine bodyPost_ret (results_cell_row rfl _ _ gb 31 #[.slice A9 g.length c9, .slice A2 n2 c2, .slice A3 n3 c3, .int .u64 a4, .bool (Int.tmod a5 2 == 0), .bool ((Int.tdiv a5 2) % 2 == 0)] (0, 0) _ rfl HBX.out Try.underlying31 rfl (by kernel_rfl)) rfl ?_
  exact ⟨_, _, rfl, HC9.out, (Kd.R_reads' HRX.out).2.2, HBB.out⟩

end Go.Proofs.Ytfiemikganhgeaa.P
