-- written by this project's xprint.py (a turn of the kit's printer; its own texts among them)
import Derived.Test.YticdodbnjlnjlaaPx0
import Derived.Test.YticdodbnjlnjlaaPx1
import Derived.Test.YticdodbnjlnjlaaPx5
import Derived.Test.YticdodbnjlnjlaaPx7
namespace Go.Proofs.Yticdodbnjlnjlaa.P
open Go.RowKit Go.Proofs.YticdodbnjlnjlaaW.PrintWords Go.Proofs.YticdodbnjlnjlaaW.PrintLast Go.Proofs.YticdodbnjlnjlaaW.PrintMore
attribute [local go_sem] max2_int min2_int max_two min_two max_three min_three max_four min_four   -- for this text's walks alone
attribute [local irreducible] Calls
set_option linter.unusedVariables false
set_option linter.unusedSimpArgs false

attribute [local go_sem high] eqA33
/-! ### interlocklaw19_known: function 12 -/
def interlocklaw19_known.f (k : Nat)  : Option (Bool) := (swap_Code.f k (([(⟨8, 0, 1, 0⟩ : S33), (⟨7, 2, 1, 0⟩ : S33), (⟨3, 1, 2, 2⟩ : S33)] : List (S33)))).bind fun bt289 => (if (bt289.1.length : Int) = 3 then (if (bt289.2.length : Int) = 3 then (if 0 < (bt289.1.length : Int) then (if ((rd_T33 bt289.1 0).f0) = 7 then (if 1 < (bt289.1.length : Int) then (if ((rd_T33 bt289.1 1).f0) = 8 then (if 2 < (bt289.1.length : Int) then (if ((rd_T33 bt289.1 2).f0) = 3 then (if 0 < (bt289.2.length : Int) then (if (rd bt289.2 0) = 1 then (if 1 < (bt289.2.length : Int) then (if (rd bt289.2 1) = 0 then ((swap_Apart.f k 8 0 0 0 7 1 0 0).bind fun t301 => (if t301 = true then (none) else ((swap_Apart.f k 7 0 0 0 7 1 0 0).bind fun t302 => (some t302)))) else (none)) else (none)) else (none)) else (none)) else (none)) else (none)) else (none)) else (none)) else (none)) else (none)) else (none)) else (none))
theorem interlocklaw19_known.mono : ∀ k, LeO (interlocklaw19_known.f k ) (interlocklaw19_known.f (k + 1) ) := by
  intro  k
  unfold interlocklaw19_known.f
  repeat' first
      | (with_reducible exact swap_Apart.mono _ _ _ _ _ _ _ _ _)
      | (with_reducible exact swap_Code.mono _ _)
      | (with_reducible exact LeO.refl _)
      | (with_reducible exact LeO.none _)
      | (with_reducible refine LeO.ite ?_ ?_)
      | (with_reducible refine LeO.bind ?_ (fun _ => ?_))
      | exact LeO.none _
      | refine LeO.ite ?_ ?_
      | refine LeO.bind ?_ (fun _ => ?_)
set_option maxHeartbeats 8000000 in
set_option maxRecDepth 100000 in
theorem interlocklaw19_known.calls (k : Nat)  (r : Bool) (w : World) (h : interlocklaw19_known.f k  = some r) :
    Calls Try.prog 12 #[] w fun e w' => e = .returned (.bool r) ∧ Below w.heap.size w w' := by
 have hu33 := Try.underlying33
 have hu30 := Try.underlying30
 have HB := Aside0.mk (Below.refl w.heap.size w)
 have H : ((swap_Code.f k (([(⟨8, 0, 1, 0⟩ : S33), (⟨7, 2, 1, 0⟩ : S33), (⟨3, 1, 2, 2⟩ : S33)] : List (S33)))).bind fun bt289 => (if (bt289.1.length : Int) = 3 then (if (bt289.2.length : Int) = 3 then (if 0 < (bt289.1.length : Int) then (if ((rd_T33 bt289.1 0).f0) = 7 then (if 1 < (bt289.1.length : Int) then (if ((rd_T33 bt289.1 1).f0) = 8 then (if 2 < (bt289.1.length : Int) then (if ((rd_T33 bt289.1 2).f0) = 3 then (if 0 < (bt289.2.length : Int) then (if (rd bt289.2 0) = 1 then (if 1 < (bt289.2.length : Int) then (if (rd bt289.2 1) = 0 then ((swap_Apart.f k 8 0 0 0 7 1 0 0).bind fun t301 => (if t301 = true then (none) else ((swap_Apart.f k 7 0 0 0 7 1 0 0).bind fun t302 => (some t302)))) else (none)) else (none)) else (none)) else (none)) else (none)) else (none)) else (none)) else (none)) else (none)) else (none)) else (none)) else (none))) = some r := h
 clear h
 obtain ⟨y286, hy286⟩ : ∃ y_ : List (S33), y_ = (([(⟨8, 0, 1, 0⟩ : S33), (⟨7, 2, 1, 0⟩ : S33), (⟨3, 1, 2, 2⟩ : S33)] : List (S33))) := ⟨_, rfl⟩
 replace H : ((swap_Code.f k y286).bind fun bt289 => (if (bt289.1.length : Int) = 3 then (if (bt289.2.length : Int) = 3 then (if 0 < (bt289.1.length : Int) then (if ((rd_T33 bt289.1 0).f0) = 7 then (if 1 < (bt289.1.length : Int) then (if ((rd_T33 bt289.1 1).f0) = 8 then (if 2 < (bt289.1.length : Int) then (if ((rd_T33 bt289.1 2).f0) = 3 then (if 0 < (bt289.2.length : Int) then (if (rd bt289.2 0) = 1 then (if 1 < (bt289.2.length : Int) then (if (rd bt289.2 1) = 0 then ((swap_Apart.f k 8 0 0 0 7 1 0 0).bind fun t301 => (if t301 = true then (none) else ((swap_Apart.f k 7 0 0 0 7 1 0 0).bind fun t302 => (some t302)))) else (none)) else (none)) else (none)) else (none)) else (none)) else (none)) else (none)) else (none)) else (none)) else (none)) else (none)) else (none))) = some r := by first | (rw [hy286]; with_reducible exact H) | (have H2_ := (Option.bind_some _ _).symm.trans H; rw [hy286]; with_reducible exact H2_) | (have H2_ := (Option.bind_some _ _).symm.trans H; with_reducible exact H2_) | with_reducible exact H | (rw [hy286]; exact H) | exact H
 have Ny286 := Aside0.mk hy286
 clear hy286
 replace H := Option.bind_eq_some_iff.mp H
 obtain ⟨⟨t289, t292⟩, A10, H⟩ := H
 replace H : (if (t289.length : Int) = 3 then (if (t292.length : Int) = 3 then (if 0 < (t289.length : Int) then (if ((rd_T33 t289 0).f0) = 7 then (if 1 < (t289.length : Int) then (if ((rd_T33 t289 1).f0) = 8 then (if 2 < (t289.length : Int) then (if ((rd_T33 t289 2).f0) = 3 then (if 0 < (t292.length : Int) then (if (rd t292 0) = 1 then (if 1 < (t292.length : Int) then (if (rd t292 1) = 0 then ((swap_Apart.f k 8 0 0 0 7 1 0 0).bind fun t301 => (if t301 = true then (none) else ((swap_Apart.f k 7 0 0 0 7 1 0 0).bind fun t302 => (some t302)))) else (none)) else (none)) else (none)) else (none)) else (none)) else (none)) else (none)) else (none)) else (none)) else (none)) else (none)) else (none)) = some r := H
 have A1 := Aside0.mk A10
 clear A10
 by_cases c2 : (t289.length : Int) = 3
 {
 rw [if_pos c2] at H
 have c2b0 : ((t289.length : Int) == 3) = true := beq_iff_eq.mpr c2
 have c2b1 : ((t289.length : Int) != 3) = false := bne_eq_false_iff_eq.mpr c2
 clear c2
 by_cases c3 : (t292.length : Int) = 3
 {
 rw [if_pos c3] at H
 have c3b0 : ((t292.length : Int) == 3) = true := beq_iff_eq.mpr c3
 have c3b1 : ((t292.length : Int) != 3) = false := bne_eq_false_iff_eq.mpr c3
 clear c3
 by_cases c4 : 0 < (t289.length : Int)
 {
 rw [if_pos c4] at H
 have c4b0 : decide (0 < (t289.length : Int)) = true := decide_eq_true c4
 have c4b1 : decide (0 < t289.length) = true := decide_eq_true (by omega)
 clear c4
 by_cases c5 : ((rd_T33 t289 0).f0) = 7
 {
 rw [if_pos c5] at H
 have c5b0 : (((rd_T33 t289 0).f0) == 7) = true := beq_iff_eq.mpr c5
 have c5b1 : (((rd_T33 t289 0).f0) != 7) = false := bne_eq_false_iff_eq.mpr c5
 clear c5
 by_cases c6 : 1 < (t289.length : Int)
 {
 rw [if_pos c6] at H
 have c6b0 : decide (1 < (t289.length : Int)) = true := decide_eq_true c6
 have c6b1 : decide (1 < t289.length) = true := decide_eq_true (by omega)
 clear c6
 by_cases c7 : ((rd_T33 t289 1).f0) = 8
 {
 rw [if_pos c7] at H
 have c7b0 : (((rd_T33 t289 1).f0) == 8) = true := beq_iff_eq.mpr c7
 have c7b1 : (((rd_T33 t289 1).f0) != 8) = false := bne_eq_false_iff_eq.mpr c7
 clear c7
 by_cases c8 : 2 < (t289.length : Int)
 {
 rw [if_pos c8] at H
 have c8b0 : decide (2 < (t289.length : Int)) = true := decide_eq_true c8
 have c8b1 : decide (2 < t289.length) = true := decide_eq_true (by omega)
 clear c8
 by_cases c9 : ((rd_T33 t289 2).f0) = 3
 {
 rw [if_pos c9] at H
 have c9b0 : (((rd_T33 t289 2).f0) == 3) = true := beq_iff_eq.mpr c9
 have c9b1 : (((rd_T33 t289 2).f0) != 3) = false := bne_eq_false_iff_eq.mpr c9
 clear c9
 by_cases c10 : 0 < (t292.length : Int)
 {
 rw [if_pos c10] at H
 have c10b0 : decide (0 < (t292.length : Int)) = true := decide_eq_true c10
 have c10b1 : decide (0 < t292.length) = true := decide_eq_true (by omega)
 clear c10
 by_cases c11 : (rd t292 0) = 1
 {
 rw [if_pos c11] at H
 have c11b0 : ((rd t292 0) == 1) = true := beq_iff_eq.mpr c11
 have c11b1 : ((rd t292 0) != 1) = false := bne_eq_false_iff_eq.mpr c11
 clear c11
 by_cases c12 : 1 < (t292.length : Int)
 {
 rw [if_pos c12] at H
 have c12b0 : decide (1 < (t292.length : Int)) = true := decide_eq_true c12
 have c12b1 : decide (1 < t292.length) = true := decide_eq_true (by omega)
 clear c12
 by_cases c13 : (rd t292 1) = 0
 {
 rw [if_pos c13] at H
 have c13b0 : ((rd t292 1) == 0) = true := beq_iff_eq.mpr c13
 have c13b1 : ((rd t292 1) != 0) = false := bne_eq_false_iff_eq.mpr c13
 clear c13
 replace H := Option.bind_eq_some_iff.mp H
 obtain ⟨t301, A140, H⟩ := H
 replace H : (if t301 = true then (none) else ((swap_Apart.f k 7 0 0 0 7 1 0 0).bind fun t302 => (some t302))) = some r := H
 have A14 := Aside0.mk A140
 clear A140
 by_cases c15 : t301 = true
 {
 subst c15
 have H1 : (none) = some r := by rw [if_pos rfl] at H; exact H
 clear H
 have H := H1
 clear H1
 exact absurd H (by simp)
 }
 {
 replace c15 := Bool.eq_false_iff.mpr c15
 subst c15
 have H1 : ((swap_Apart.f k 7 0 0 0 7 1 0 0).bind fun t302 => (some t302)) = some r := by rw [if_neg (show ¬ (false = true) by decide)] at H; exact H
 clear H
 have H := H1
 clear H1
 replace H := Option.bind_eq_some_iff.mp H
 obtain ⟨t302, A160, H⟩ := H
 replace H : (some t302) = some r := H
 have A16 := Aside0.mk A160
 clear A160
 obtain rfl := Option.some.inj H
 go_enter Try.func12, Try.ntmps12
 go_wp2_with (first | ((with_reducible refine gate_dst (N := 5) rfl ?_); (try (refine gate_guard (by rfl) ?_; dsimp only)); refine Kd.R_lit k33 _ 33 ?hg (N := 5) ?hd (xs := ([(⟨8, 0, 1, 0⟩ : S33), (⟨7, 2, 1, 0⟩ : S33), (⟨3, 1, 2, 2⟩ : S33)] : List (S33))) (inner := [.int .u8 8, .int .i64 0, .int .i64 1, .int .i64 0, .int .u8 7, .int .i64 2, .int .i64 1, .int .i64 0, .int .u8 3, .int .i64 1, .int .i64 2, .int .i64 2]) (ok := fun _ => True) (okp := fun _ => True) ?hr ?hp (fun _ hk => hk) trivial (Below.refl _ _) (Nat.le_refl _) (by simp) ?_; (case hd => rfl); (case hg => rfl); (case hr => first | (go_simp; done) | (go_simp; rfl)); (case hp => exact (Reps.c4 (show Kd.M k33 _ _ _ (⟨8, 0, 1, 0⟩ : S33) [.int .u8 8, .int .i64 0, .int .i64 1, .int .i64 0] from (k33_mkM _ _ _ (⟨8, 0, 1, 0⟩ : S33) )) (Reps.c4 (show Kd.M k33 _ _ _ (⟨7, 2, 1, 0⟩ : S33) [.int .u8 7, .int .i64 2, .int .i64 1, .int .i64 0] from (k33_mkM _ _ _ (⟨7, 2, 1, 0⟩ : S33) )) (Reps.c4 (show Kd.M k33 _ _ _ (⟨3, 1, 2, 2⟩ : S33) [.int .u8 3, .int .i64 1, .int .i64 2, .int .i64 2] from (k33_mkM _ _ _ (⟨3, 1, 2, 2⟩ : S33) )) (Reps.none _ _))))); intro v287 w17 ho18 hb hg_ hnew_; clear hg_ hnew_; (first | rw [← Ny286.out] at ho18 | (simp only [Int.reduceToNat] at ho18; rw [← Ny286.out] at ho18)); have n0_ := Aside0.mk (Kd.R_lower ho18 (below_size (by repeat (first | (with_reducible first | exact HB.out | apply below_alloc | apply pw_below_drewN | apply below_drew1) | exact HB.out)))); have n1_ := Aside0.mk (below_step (by repeat (first | (with_reducible first | exact HB.out | apply below_alloc | apply pw_below_drewN | apply below_drew1) | exact HB.out)) hb); clear HB; have HO288 := n0_; have HB := n1_; clear n0_ n1_; clear hb ho18; obtain ⟨Ao19, co19, eo19⟩ := Kd.R_slice HO288.out; subst eo19) | ((with_reducible refine gate_callee (f := 9) rfl ?_); refine goesL_ (some 6) rfl rfl Try.func9 (by kernel_rfl) rfl #[.slice Ao19 y286.length co19] rfl (by (try simp only [List.map_toArray, List.map_cons, List.map_nil]); first | done | rfl | (simp only [List.length_drop, List.length_take]; rfl)) ?_; (with_reducible refine (swap_Code.calls k _ _ y286 t289 t292 _ ?side1 ?side2 A1.out).mono ?_); (case side1 => repeat (first | exact (Kd.R_reads' HO288.out).2.2 | (with_reducible refine Kd.C_alloc ?_ _) | (with_reducible refine Kd.C_drewN ?_ _) | (with_reducible refine Kd.C_drew ?_))); (case side2 => exact (Kd.R_reads' HO288.out).2.1); rintro e w20 ⟨v290, v293, rfl, ho0, ho1, hb⟩; refine ⟨_, rfl, ?_⟩; have n0_ := Aside0.mk (Kd.R_elder' (by (with_reducible repeat (first | apply Kd.R_alloc | apply Kd.R_drewN | apply Kd.R_drew)); exact HO288.out) (Kd.R_base ho0) hb); have n1_ := Aside0.mk (Kd.R_lower (Kd.R_new' ho0 (Kd.R_lt (by (with_reducible repeat (first | apply Kd.R_alloc | apply Kd.R_drewN | apply Kd.R_drew)); exact HO288.out))) (below_size (by repeat (first | (with_reducible first | exact HB.out | apply below_alloc | apply pw_below_drewN | apply below_drew1) | exact HB.out)))); have n2_ := Aside0.mk (Kd.R_lower ho1 (below_size (by repeat (first | (with_reducible first | exact HB.out | apply below_alloc | apply pw_below_drewN | apply below_drew1) | exact HB.out)))); have n3_ := Aside0.mk (below_step (by repeat (first | (with_reducible first | exact HB.out | apply below_alloc | apply pw_below_drewN | apply below_drew1) | exact HB.out)) hb); clear HO288; clear HB; have HO288 := n0_; have HO291 := n1_; have HO294 := n2_; have HB := n3_; clear n0_ n1_ n2_ n3_; (try clear hb); (try clear hb2); (try clear hk); (try clear hi); (try clear ho0); (try clear ho1)) | ((with_reducible refine gate_dst (N := 1) rfl ?_); (try (refine gate_guard (by rfl) ?_; dsimp only)); refine box_event ?hg (N := 1) ?hd (cs := #[.slice none 0 0, .slice none 0 0]) (t := 30) ?hr ?_; (case hd => rfl); (case hg => rfl); (case hr => first | (go_simp; done) | (go_simp; rfl)); intro gb295 hg w21 hbox hb; have n0_ := Aside0.mk (Kd.R_below (by (with_reducible repeat (first | apply Kd.R_alloc | apply Kd.R_drewN | apply Kd.R_drew)); exact HO288.out) hb); have n1_ := Aside0.mk (Kd.R_below (by (with_reducible repeat (first | apply Kd.R_alloc | apply Kd.R_drewN | apply Kd.R_drew)); exact HO291.out) hb); have n2_ := Aside0.mk (Kd.R_below (by (with_reducible repeat (first | apply Kd.R_alloc | apply Kd.R_drewN | apply Kd.R_drew)); exact HO294.out) hb); have n3_ := Aside0.mk (below_step (by repeat (first | (with_reducible first | exact HB.out | apply below_alloc | apply pw_below_drewN | apply below_drew1) | exact HB.out)) hb); have n4_ := Aside0.mk (hbox); have n5_ := Aside0.mk ((by rw [hg]; exact (below_size (by repeat (first | (with_reducible first | exact HB.out | apply below_alloc | apply pw_below_drewN | apply below_drew1) | exact HB.out))) : w.heap.size ≤ gb295)); have n6_ := Aside0.mk ((by rw [hg]; exact (below_size (by repeat (first | (with_reducible first | exact HB.out | apply below_alloc | apply pw_below_drewN | apply below_drew1) | exact HB.out))) : w.heap.size ≤ gb295)); clear HO288; clear HO291; clear HO294; clear HB; have HO288 := n0_; have HO291 := n1_; have HO294 := n2_; have HB := n3_; have BK295 := n4_; have GW295 := n5_; have GE295 := n6_; clear n0_ n1_ n2_ n3_ n4_ n5_ n6_; clear hb hbox hg; obtain ⟨Ao22, co22, eo22⟩ := Kd.R_slice HO291.out; subst eo22; have hcz23_0 : w21.cell? ⟨gb295, 0, none⟩ = some (.slice none 0 0) := (blk_cell BK295.out 0).trans rfl; have hcz23_1 : w21.cell? ⟨gb295, 1, none⟩ = some (.slice none 0 0) := (blk_cell BK295.out 1).trans rfl; have hfz23_0 := blk_frozen BK295.out 0; have hfz23_1 := blk_frozen BK295.out 1; obtain ⟨Ao24, co24, eo24⟩ := Kd.R_slice HO294.out; subst eo24; have p296 : 0 ≤ (0 : Int) := (by omega); have q296 : 0 < (t289.length : Int) := of_decide_eq_true (by first | (with_reducible assumption) | assumption); obtain ⟨ad296, e296, hx296_0, hx296_1, hx296_2, hx296_3⟩ := at_T33 (Kd.R_reads' HO291.out).2.2 0 p296 q296; cases e296; have qi296 : (0 < t289.length) = True := eq_true (by omega); (try rw [show ((0 : Int)).toNat = 0 from rfl] at hx296_0); (try rw [show 0 * 4 = 0 from rfl] at hx296_0); (try rw [Addr.add_zero'] at hx296_0); (try rw [show ((0 : Int)).toNat = 0 from rfl] at hx296_1); (try rw [show 0 * 4 = 0 from rfl] at hx296_1); (try rw [Addr.add_zero'] at hx296_1); (try rw [show ((0 : Int)).toNat = 0 from rfl] at hx296_2); (try rw [show 0 * 4 = 0 from rfl] at hx296_2); (try rw [Addr.add_zero'] at hx296_2); (try rw [show ((0 : Int)).toNat = 0 from rfl] at hx296_3); (try rw [show 0 * 4 = 0 from rfl] at hx296_3); (try rw [Addr.add_zero'] at hx296_3); have hn296_0 : ad296.block ≠ gb295 := Kd.own_blk (Kd.R_ne HO291.out BK295.out (by decide)); have hn296_1 : ad296.block ≠ gb295 := Kd.own_blk (Kd.R_ne HO291.out BK295.out (by decide)); replace hx296_0 := (cell_far (p := ⟨gb295, 0, none⟩) (by first | (rw [add_block]; exact hn296_0) | (show (Addr.add _ _).block ≠ _; rw [add_block]; exact hn296_0) | exact hn296_0) (.slice (some ad296) t289.length co22)).trans hx296_0; replace hx296_1 := (cell_far (p := ⟨gb295, 0, none⟩) (by first | (rw [add_block]; exact hn296_0) | (show (Addr.add _ _).block ≠ _; rw [add_block]; exact hn296_0) | exact hn296_0) (.slice (some ad296) t289.length co22)).trans hx296_1; replace hx296_2 := (cell_far (p := ⟨gb295, 0, none⟩) (by first | (rw [add_block]; exact hn296_0) | (show (Addr.add _ _).block ≠ _; rw [add_block]; exact hn296_0) | exact hn296_0) (.slice (some ad296) t289.length co22)).trans hx296_2; replace hx296_3 := (cell_far (p := ⟨gb295, 0, none⟩) (by first | (rw [add_block]; exact hn296_0) | (show (Addr.add _ _).block ≠ _; rw [add_block]; exact hn296_0) | exact hn296_0) (.slice (some ad296) t289.length co22)).trans hx296_3; replace hx296_0 := (cell_far (p := ⟨gb295, 1, none⟩) (by first | (rw [add_block]; exact hn296_1) | (show (Addr.add _ _).block ≠ _; rw [add_block]; exact hn296_1) | exact hn296_1) (.slice Ao24 t292.length co24)).trans hx296_0; replace hx296_1 := (cell_far (p := ⟨gb295, 1, none⟩) (by first | (rw [add_block]; exact hn296_1) | (show (Addr.add _ _).block ≠ _; rw [add_block]; exact hn296_1) | exact hn296_1) (.slice Ao24 t292.length co24)).trans hx296_1; replace hx296_2 := (cell_far (p := ⟨gb295, 1, none⟩) (by first | (rw [add_block]; exact hn296_1) | (show (Addr.add _ _).block ≠ _; rw [add_block]; exact hn296_1) | exact hn296_1) (.slice Ao24 t292.length co24)).trans hx296_2; replace hx296_3 := (cell_far (p := ⟨gb295, 1, none⟩) (by first | (rw [add_block]; exact hn296_1) | (show (Addr.add _ _).block ≠ _; rw [add_block]; exact hn296_1) | exact hn296_1) (.slice Ao24 t292.length co24)).trans hx296_3; clear hn296_0; clear hn296_1; replace p296 := eq_true p296; replace q296 := eq_true q296; have p297 : 0 ≤ (1 : Int) := (by omega); have q297 : 1 < (t289.length : Int) := of_decide_eq_true (by first | (with_reducible assumption) | assumption); obtain ⟨ad297, e297, hx297_0, hx297_1, hx297_2, hx297_3⟩ := at_T33 (Kd.R_reads' HO291.out).2.2 1 p297 q297; obtain rfl : ad296 = ad297 := (by injection e297); (try simp only [show (1 : Int).toNat = 1 from rfl, Nat.reduceMul, Nat.reduceEqDiff, Go.Addr.add, ↓reduceIte] at hx297_0); (try simp only [show (1 : Int).toNat = 1 from rfl, Nat.reduceMul, Nat.reduceEqDiff, Go.Addr.add, ↓reduceIte] at hx297_1); (try simp only [show (1 : Int).toNat = 1 from rfl, Nat.reduceMul, Nat.reduceEqDiff, Go.Addr.add, ↓reduceIte] at hx297_2); (try simp only [show (1 : Int).toNat = 1 from rfl, Nat.reduceMul, Nat.reduceEqDiff, Go.Addr.add, ↓reduceIte] at hx297_3); have qi297 : (1 < t289.length) = True := eq_true (by omega); (try rw [show ((1 : Int)).toNat = 1 from rfl] at hx297_0); (try rw [show 1 * 4 = 4 from rfl] at hx297_0); (try rw [show ((1 : Int)).toNat = 1 from rfl] at hx297_1); (try rw [show 1 * 4 = 4 from rfl] at hx297_1); (try rw [show ((1 : Int)).toNat = 1 from rfl] at hx297_2); (try rw [show 1 * 4 = 4 from rfl] at hx297_2); (try rw [show ((1 : Int)).toNat = 1 from rfl] at hx297_3); (try rw [show 1 * 4 = 4 from rfl] at hx297_3); have hn297_0 : ad296.block ≠ gb295 := Kd.own_blk (Kd.R_ne HO291.out BK295.out (by decide)); have hn297_1 : ad296.block ≠ gb295 := Kd.own_blk (Kd.R_ne HO291.out BK295.out (by decide)); replace hx297_0 := (cell_far (p := ⟨gb295, 0, none⟩) (by first | (rw [add_block]; exact hn297_0) | (show (Addr.add _ _).block ≠ _; rw [add_block]; exact hn297_0) | exact hn297_0) (.slice (some ad296) t289.length co22)).trans hx297_0; replace hx297_1 := (cell_far (p := ⟨gb295, 0, none⟩) (by first | (rw [add_block]; exact hn297_0) | (show (Addr.add _ _).block ≠ _; rw [add_block]; exact hn297_0) | exact hn297_0) (.slice (some ad296) t289.length co22)).trans hx297_1; replace hx297_2 := (cell_far (p := ⟨gb295, 0, none⟩) (by first | (rw [add_block]; exact hn297_0) | (show (Addr.add _ _).block ≠ _; rw [add_block]; exact hn297_0) | exact hn297_0) (.slice (some ad296) t289.length co22)).trans hx297_2; replace hx297_3 := (cell_far (p := ⟨gb295, 0, none⟩) (by first | (rw [add_block]; exact hn297_0) | (show (Addr.add _ _).block ≠ _; rw [add_block]; exact hn297_0) | exact hn297_0) (.slice (some ad296) t289.length co22)).trans hx297_3; replace hx297_0 := (cell_far (p := ⟨gb295, 1, none⟩) (by first | (rw [add_block]; exact hn297_1) | (show (Addr.add _ _).block ≠ _; rw [add_block]; exact hn297_1) | exact hn297_1) (.slice Ao24 t292.length co24)).trans hx297_0; replace hx297_1 := (cell_far (p := ⟨gb295, 1, none⟩) (by first | (rw [add_block]; exact hn297_1) | (show (Addr.add _ _).block ≠ _; rw [add_block]; exact hn297_1) | exact hn297_1) (.slice Ao24 t292.length co24)).trans hx297_1; replace hx297_2 := (cell_far (p := ⟨gb295, 1, none⟩) (by first | (rw [add_block]; exact hn297_1) | (show (Addr.add _ _).block ≠ _; rw [add_block]; exact hn297_1) | exact hn297_1) (.slice Ao24 t292.length co24)).trans hx297_2; replace hx297_3 := (cell_far (p := ⟨gb295, 1, none⟩) (by first | (rw [add_block]; exact hn297_1) | (show (Addr.add _ _).block ≠ _; rw [add_block]; exact hn297_1) | exact hn297_1) (.slice Ao24 t292.length co24)).trans hx297_3; clear hn297_0; clear hn297_1; replace p297 := eq_true p297; replace q297 := eq_true q297; have p298 : 0 ≤ (2 : Int) := (by omega); have q298 : 2 < (t289.length : Int) := of_decide_eq_true (by first | (with_reducible assumption) | assumption); obtain ⟨ad298, e298, hx298_0, hx298_1, hx298_2, hx298_3⟩ := at_T33 (Kd.R_reads' HO291.out).2.2 2 p298 q298; obtain rfl : ad296 = ad298 := (by injection e298); (try simp only [show (2 : Int).toNat = 2 from rfl, Nat.reduceMul, Nat.reduceEqDiff, Go.Addr.add, ↓reduceIte] at hx298_0); (try simp only [show (2 : Int).toNat = 2 from rfl, Nat.reduceMul, Nat.reduceEqDiff, Go.Addr.add, ↓reduceIte] at hx298_1); (try simp only [show (2 : Int).toNat = 2 from rfl, Nat.reduceMul, Nat.reduceEqDiff, Go.Addr.add, ↓reduceIte] at hx298_2); (try simp only [show (2 : Int).toNat = 2 from rfl, Nat.reduceMul, Nat.reduceEqDiff, Go.Addr.add, ↓reduceIte] at hx298_3); have qi298 : (2 < t289.length) = True := eq_true (by omega); (try rw [show ((2 : Int)).toNat = 2 from rfl] at hx298_0); (try rw [show 2 * 4 = 8 from rfl] at hx298_0); (try rw [show ((2 : Int)).toNat = 2 from rfl] at hx298_1); (try rw [show 2 * 4 = 8 from rfl] at hx298_1); (try rw [show ((2 : Int)).toNat = 2 from rfl] at hx298_2); (try rw [show 2 * 4 = 8 from rfl] at hx298_2); (try rw [show ((2 : Int)).toNat = 2 from rfl] at hx298_3); (try rw [show 2 * 4 = 8 from rfl] at hx298_3); have hn298_0 : ad296.block ≠ gb295 := Kd.own_blk (Kd.R_ne HO291.out BK295.out (by decide)); have hn298_1 : ad296.block ≠ gb295 := Kd.own_blk (Kd.R_ne HO291.out BK295.out (by decide)); replace hx298_0 := (cell_far (p := ⟨gb295, 0, none⟩) (by first | (rw [add_block]; exact hn298_0) | (show (Addr.add _ _).block ≠ _; rw [add_block]; exact hn298_0) | exact hn298_0) (.slice (some ad296) t289.length co22)).trans hx298_0; replace hx298_1 := (cell_far (p := ⟨gb295, 0, none⟩) (by first | (rw [add_block]; exact hn298_0) | (show (Addr.add _ _).block ≠ _; rw [add_block]; exact hn298_0) | exact hn298_0) (.slice (some ad296) t289.length co22)).trans hx298_1; replace hx298_2 := (cell_far (p := ⟨gb295, 0, none⟩) (by first | (rw [add_block]; exact hn298_0) | (show (Addr.add _ _).block ≠ _; rw [add_block]; exact hn298_0) | exact hn298_0) (.slice (some ad296) t289.length co22)).trans hx298_2; replace hx298_3 := (cell_far (p := ⟨gb295, 0, none⟩) (by first | (rw [add_block]; exact hn298_0) | (show (Addr.add _ _).block ≠ _; rw [add_block]; exact hn298_0) | exact hn298_0) (.slice (some ad296) t289.length co22)).trans hx298_3; replace hx298_0 := (cell_far (p := ⟨gb295, 1, none⟩) (by first | (rw [add_block]; exact hn298_1) | (show (Addr.add _ _).block ≠ _; rw [add_block]; exact hn298_1) | exact hn298_1) (.slice Ao24 t292.length co24)).trans hx298_0; replace hx298_1 := (cell_far (p := ⟨gb295, 1, none⟩) (by first | (rw [add_block]; exact hn298_1) | (show (Addr.add _ _).block ≠ _; rw [add_block]; exact hn298_1) | exact hn298_1) (.slice Ao24 t292.length co24)).trans hx298_1; replace hx298_2 := (cell_far (p := ⟨gb295, 1, none⟩) (by first | (rw [add_block]; exact hn298_1) | (show (Addr.add _ _).block ≠ _; rw [add_block]; exact hn298_1) | exact hn298_1) (.slice Ao24 t292.length co24)).trans hx298_2; replace hx298_3 := (cell_far (p := ⟨gb295, 1, none⟩) (by first | (rw [add_block]; exact hn298_1) | (show (Addr.add _ _).block ≠ _; rw [add_block]; exact hn298_1) | exact hn298_1) (.slice Ao24 t292.length co24)).trans hx298_3; clear hn298_0; clear hn298_1; replace p298 := eq_true p298; replace q298 := eq_true q298; have p299 : 0 ≤ (0 : Int) := (by omega); have q299 : 0 < (t292.length : Int) := of_decide_eq_true (by first | (with_reducible assumption) | assumption); obtain ⟨ad299, e299, hx299_0⟩ := Kd.at_int (Kd.R_reads' HO294.out).2.2 0 p299 q299; cases e299; have qi299 : (0 < t292.length) = True := eq_true (by omega); (try rw [show ((0 : Int)).toNat = 0 from rfl] at hx299_0); (try rw [Addr.add_zero'] at hx299_0); have hn299_0 : ad299.block ≠ gb295 := Kd.own_blk (Kd.R_ne HO294.out BK295.out (by decide)); have hn299_1 : ad299.block ≠ gb295 := Kd.own_blk (Kd.R_ne HO294.out BK295.out (by decide)); replace hx299_0 := (cell_far (p := ⟨gb295, 0, none⟩) (by first | (rw [add_block]; exact hn299_0) | (show (Addr.add _ _).block ≠ _; rw [add_block]; exact hn299_0) | exact hn299_0) (.slice (some ad296) t289.length co22)).trans hx299_0; replace hx299_0 := (cell_far (p := ⟨gb295, 1, none⟩) (by first | (rw [add_block]; exact hn299_1) | (show (Addr.add _ _).block ≠ _; rw [add_block]; exact hn299_1) | exact hn299_1) (.slice (some ad299) t292.length co24)).trans hx299_0; clear hn299_0; clear hn299_1; replace p299 := eq_true p299; replace q299 := eq_true q299; have p300 : 0 ≤ (1 : Int) := (by omega); have q300 : 1 < (t292.length : Int) := of_decide_eq_true (by first | (with_reducible assumption) | assumption); obtain ⟨ad300, e300, hx300_0⟩ := Kd.at_int (Kd.R_reads' HO294.out).2.2 1 p300 q300; obtain rfl : ad299 = ad300 := (by injection e300); (try simp only [show (1 : Int).toNat = 1 from rfl, Nat.reduceMul, Nat.reduceEqDiff, Go.Addr.add, ↓reduceIte] at hx300_0); have qi300 : (1 < t292.length) = True := eq_true (by omega); (try rw [show ((1 : Int)).toNat = 1 from rfl] at hx300_0); have hn300_0 : ad299.block ≠ gb295 := Kd.own_blk (Kd.R_ne HO294.out BK295.out (by decide)); have hn300_1 : ad299.block ≠ gb295 := Kd.own_blk (Kd.R_ne HO294.out BK295.out (by decide)); replace hx300_0 := (cell_far (p := ⟨gb295, 0, none⟩) (by first | (rw [add_block]; exact hn300_0) | (show (Addr.add _ _).block ≠ _; rw [add_block]; exact hn300_0) | exact hn300_0) (.slice (some ad296) t289.length co22)).trans hx300_0; replace hx300_0 := (cell_far (p := ⟨gb295, 1, none⟩) (by first | (rw [add_block]; exact hn300_1) | (show (Addr.add _ _).block ≠ _; rw [add_block]; exact hn300_1) | exact hn300_1) (.slice (some ad299) t292.length co24)).trans hx300_0; clear hn300_0; clear hn300_1; replace p300 := eq_true p300; replace q300 := eq_true q300) | (go_at_call 17; (with_reducible refine (swap_Apart.calls k 8 0 0 0 7 1 0 0 false _ A14.out).mono ?_); rintro e w25 ⟨rfl, hb⟩; have n0_ := Aside0.mk (Kd.R_below (by (with_reducible repeat (first | apply Kd.R_alloc | apply Kd.R_drewN | apply Kd.R_drew)); exact (Kd.R_mono (Kd.R_far (p := ⟨gb295, 1, none⟩) (Kd.R_far (p := ⟨gb295, 0, none⟩) (Kd.R_types HO288.out BK295.out (by decide)) (fun _ hk => hk.2) (.slice (some ad296) t289.length co22)) (fun _ hk => hk.2) (.slice (some ad299) t292.length co24)) (fun _ h_ => h_.1))) hb); have n1_ := Aside0.mk (Kd.R_below (by (with_reducible repeat (first | apply Kd.R_alloc | apply Kd.R_drewN | apply Kd.R_drew)); exact (Kd.R_mono (Kd.R_far (p := ⟨gb295, 1, none⟩) (Kd.R_far (p := ⟨gb295, 0, none⟩) (Kd.R_types HO291.out BK295.out (by decide)) (fun _ hk => hk.2) (.slice (some ad296) t289.length co22)) (fun _ hk => hk.2) (.slice (some ad299) t292.length co24)) (fun _ h_ => h_.1))) hb); have n2_ := Aside0.mk (Kd.R_below (by (with_reducible repeat (first | apply Kd.R_alloc | apply Kd.R_drewN | apply Kd.R_drew)); exact (Kd.R_mono (Kd.R_far (p := ⟨gb295, 1, none⟩) (Kd.R_far (p := ⟨gb295, 0, none⟩) (Kd.R_types HO294.out BK295.out (by decide)) (fun _ hk => hk.2) (.slice (some ad296) t289.length co22)) (fun _ hk => hk.2) (.slice (some ad299) t292.length co24)) (fun _ h_ => h_.1))) hb); have n3_ := Aside0.mk (blk_below (g := gb295) (o := .cells #[.slice (some ad296) t289.length co22, .slice (some ad299) t292.length co24] 30 (0, 0)) (by (with_reducible repeat (first | refine blk_drewN ?_ _ | refine blk_drew ?_ | refine blk_alloc ?_ _)); refine blk_put (cs := #[.slice (some ad296) t289.length co22, .slice none 0 0]) ?_ 1 _ rfl; (with_reducible repeat (first | refine blk_drewN ?_ _ | refine blk_drew ?_ | refine blk_alloc ?_ _)); refine blk_put (cs := #[.slice none 0 0, .slice none 0 0]) ?_ 0 _ rfl; (with_reducible repeat (first | refine blk_drewN ?_ _ | refine blk_drew ?_ | refine blk_alloc ?_ _)); exact BK295.out) hb); have n4_ := Aside0.mk (below_step (by repeat (first | (with_reducible first | exact HB.out | apply below_alloc | apply pw_below_drewN | apply below_drew1 | refine below_set ?_ GE295.out) | exact HB.out)) hb); clear HO288; clear HO291; clear HO294; clear BK295; clear HB; have HO288 := n0_; have HO291 := n1_; have HO294 := n2_; have BK295 := n3_; have HB := n4_; clear n0_ n1_ n2_ n3_ n4_; (try clear hb); (try clear hb2); (try clear hk); (try clear hi)) | (go_at_call 17; (with_reducible refine (swap_Apart.calls k 7 0 0 0 7 1 0 0 t302 _ A16.out).mono ?_); rintro e w26 ⟨rfl, hb⟩; have n0_ := Aside0.mk (Kd.R_below (by (with_reducible repeat (first | apply Kd.R_alloc | apply Kd.R_drewN | apply Kd.R_drew)); exact HO288.out) hb); have n1_ := Aside0.mk (Kd.R_below (by (with_reducible repeat (first | apply Kd.R_alloc | apply Kd.R_drewN | apply Kd.R_drew)); exact HO291.out) hb); have n2_ := Aside0.mk (Kd.R_below (by (with_reducible repeat (first | apply Kd.R_alloc | apply Kd.R_drewN | apply Kd.R_drew)); exact HO294.out) hb); have n3_ := Aside0.mk (blk_below (g := gb295) (o := .cells #[.slice (some ad296) t289.length co22, .slice (some ad299) t292.length co24] 30 (0, 0)) (by (with_reducible repeat (first | refine blk_drewN ?_ _ | refine blk_drew ?_ | refine blk_alloc ?_ _)); exact BK295.out) hb); have n4_ := Aside0.mk (below_step (by repeat (first | (with_reducible first | exact HB.out | apply below_alloc | apply pw_below_drewN | apply below_drew1 | refine below_set ?_ GE295.out) | exact HB.out)) hb); clear HO288; clear HO291; clear HO294; clear BK295; clear HB; have HO288 := n0_; have HO291 := n1_; have HO294 := n2_; have BK295 := n3_; have HB := n4_; clear n0_ n1_ n2_ n3_ n4_; (try clear hb); (try clear hb2); (try clear hk); (try clear hi)))
 go_ret
 exact ⟨by first | rfl | (simp [errW_none, errW_some] <;> rfl) | (simp [*, errW_none, errW_some] <;> rfl), by repeat (first | (with_reducible first | exact HB.out | apply below_alloc | apply pw_below_drewN | apply below_drew1 | refine below_set ?_ GE295.out) | exact HB.out)⟩
 }
 }
 {
 rw [if_neg c13] at H
 exact absurd H (by simp)
 }
 }
 {
 rw [if_neg c12] at H
 exact absurd H (by simp)
 }
 }
 {
 rw [if_neg c11] at H
 exact absurd H (by simp)
 }
 }
 {
 rw [if_neg c10] at H
 exact absurd H (by simp)
 }
 }
 {
 rw [if_neg c9] at H
 exact absurd H (by simp)
 }
 }
 {
 rw [if_neg c8] at H
 exact absurd H (by simp)
 }
 }
 {
 rw [if_neg c7] at H
 exact absurd H (by simp)
 }
 }
 {
 rw [if_neg c6] at H
 exact absurd H (by simp)
 }
 }
 {
 rw [if_neg c5] at H
 exact absurd H (by simp)
 }
 }
 {
 rw [if_neg c4] at H
 exact absurd H (by simp)
 }
 }
 {
 rw [if_neg c3] at H
 exact absurd H (by simp)
 }
 }
 {
 rw [if_neg c2] at H
 exact absurd H (by simp)
 }
/-! ### interlockref02_SameCode: function 13 -/
def interlockref02_SameCode.l0 : Nat → List (S33) → List (S33) → Int → Option (Bool)
  | 0, _, _, _ => none
  | k + 1, x0, x1, x5 => if x5 < (x0.length : Int) then (if 0 ≤ x5 then (if x5 < (x1.length : Int) then (if (!(((rd_T33 x0 x5).f0) == ((rd_T33 x1 x5).f0)) || (!(((rd_T33 x0 x5).f1) == ((rd_T33 x1 x5).f1)) || (!(((rd_T33 x0 x5).f2) == ((rd_T33 x1 x5).f2)) || (!(((rd_T33 x0 x5).f3) == ((rd_T33 x1 x5).f3)))))) = true then (some false) else (interlockref02_SameCode.l0 k x0 x1 (wrap64 (x5 + 1)))) else (none)) else (none)) else (some true)
def interlockref02_SameCode.f (k : Nat) (l0 : List (S33)) (l1 : List (S33)) : Option (Bool) := if (l0.length : Int) = (l1.length : Int) then (interlockref02_SameCode.l0 k l0 l1 0) else (some false)
theorem interlockref02_SameCode.mono_l : ∀ k, (∀ y0 y1 y2, LeO (interlockref02_SameCode.l0 k y0 y1 y2) (interlockref02_SameCode.l0 (k + 1) y0 y1 y2))
  | 0 => fun _ _ _ r h => by simp [interlockref02_SameCode.l0] at h
  | k + 1 => by
    have ih0 := interlockref02_SameCode.mono_l k
    · intro y0 y1 y2
      unfold interlockref02_SameCode.l0
      repeat' first
      | (with_reducible exact ih0 _ _ _)
      | (with_reducible exact LeO.refl _)
      | (with_reducible exact LeO.none _)
      | (with_reducible refine LeO.ite ?_ ?_)
      | (with_reducible refine LeO.bind ?_ (fun _ => ?_))
      | exact ih0 _ _ _
      | exact LeO.none _
      | refine LeO.ite ?_ ?_
      | refine LeO.bind ?_ (fun _ => ?_)
theorem interlockref02_SameCode.mono : ∀ a0 a1 k, LeO (interlockref02_SameCode.f k a0 a1) (interlockref02_SameCode.f (k + 1) a0 a1) := by
  intro a0 a1 k
  have ih0 := interlockref02_SameCode.mono_l k
  unfold interlockref02_SameCode.f
  repeat' first
      | (with_reducible exact ih0 _ _ _)
      | (with_reducible exact LeO.refl _)
      | (with_reducible exact LeO.none _)
      | (with_reducible refine LeO.ite ?_ ?_)
      | (with_reducible refine LeO.bind ?_ (fun _ => ?_))
      | exact ih0 _ _ _
      | exact LeO.none _
      | refine LeO.ite ?_ ?_
      | refine LeO.bind ?_ (fun _ => ?_)
set_option maxHeartbeats 8000000 in
set_option maxRecDepth 100000 in
theorem interlockref02_SameCode.calls (k : Nat) (A0 : Option Addr) (c0 : Nat) (l0 : List (S33)) (A1 : Option Addr) (c1 : Nat) (l1 : List (S33)) (r : Bool) (w : World) (hr0 : Kd.C k33 w A0 l0.length l0) (hc0 : l0.length ≤ c0) (hr1 : Kd.C k33 w A1 l1.length l1) (hc1 : l1.length ≤ c1) (h : interlockref02_SameCode.f k l0 l1 = some r) :
    Calls Try.prog 13 #[.slice A0 l0.length c0, .slice A1 l1.length c1] w fun e w' => e = .returned (.bool r) ∧ Drawn0 w w' := by
  have hu33 := Try.underlying33
  have HR0 := Aside0.mk hr0
  have HC0 := Aside0.mk hc0
  clear hr0 hc0
  have HR1 := Aside0.mk hr1
  have HC1 := Aside0.mk hc1
  clear hr1 hc1
  have H : (if (l0.length : Int) = (l1.length : Int) then (interlockref02_SameCode.l0 k l0 l1 0) else (some false)) = some r := h
  clear h
  by_cases c3 : (l0.length : Int) = (l1.length : Int)
  · rw [if_pos c3] at H
    have c3b0 : ((l0.length : Int) == (l1.length : Int)) = true := beq_iff_eq.mpr c3
    have c3b1 : ((l0.length : Int) != (l1.length : Int)) = false := bne_eq_false_iff_eq.mpr c3
    have c3b2 : (l0.length == l1.length) = true := by first | simpa using c3 | (simp at c3 ⊢; omega)
    clear c3
    have H' := Aside0.mk H
    clear H
    go_enter Try.func13, Try.ntmps13
    go_wp2
    repeat (go_quiet (fail); try go_wp2)
    go_loopg [5] k (fun kq v5 w' => ∃ (x5_1 : Int), v5 = .int .i64 x5_1 ∧ Aside0 (interlockref02_SameCode.l0 kq l0 l1 x5_1 = some r) ∧ Aside0 (kq ≤ k) ∧ Drawn0 w w')
    case atStart => exact ⟨(0), (by first | rfl | (simp; done) | (simp [*]; done)), H', ⟨Nat.le_refl _⟩, by repeat (first | exact Drawn0.refl _ | apply Drawn0.step)⟩
    case round =>
      clear H'
      try clear c1
      try clear p2
      try clear c3
      try clear c3b0
      try clear c3b1
      try clear c3b2
      obtain ⟨x5_1, rfl, HA, HK1, ⟨m1, rfl⟩⟩ := hrel
      cases gk with
      | zero => exact absurd HA.out (by simp [interlockref02_SameCode.l0])
      | succ k1 =>
        have H := HA.out
        clear HA
        simp only [interlockref02_SameCode.l0] at H
        by_cases c4 : x5_1 < (l0.length : Int)
        · rw [if_pos c4] at H
          have c4b0 : decide (x5_1 < (l0.length : Int)) = true := decide_eq_true c4
          clear c4
          by_cases c5 : 0 ≤ x5_1
          · rw [if_pos c5] at H
            have c5b0 : decide (0 ≤ x5_1) = true := decide_eq_true c5
            clear c5
            by_cases c6 : x5_1 < (l1.length : Int)
            · rw [if_pos c6] at H
              have c6b0 : decide (x5_1 < (l1.length : Int)) = true := decide_eq_true c6
              clear c6
              by_cases c7 : (!(((rd_T33 l0 x5_1).f0) == ((rd_T33 l1 x5_1).f0)) || (!(((rd_T33 l0 x5_1).f1) == ((rd_T33 l1 x5_1).f1)) || (!(((rd_T33 l0 x5_1).f2) == ((rd_T33 l1 x5_1).f2)) || (!(((rd_T33 l0 x5_1).f3) == ((rd_T33 l1 x5_1).f3)))))) = true
              · rw [if_pos c7] at H
                have c7b0 : (!(((rd_T33 l0 x5_1).f0) == ((rd_T33 l1 x5_1).f0)) || (!(((rd_T33 l0 x5_1).f1) == ((rd_T33 l1 x5_1).f1)) || (!(((rd_T33 l0 x5_1).f2) == ((rd_T33 l1 x5_1).f2)) || (!(((rd_T33 l0 x5_1).f3) == ((rd_T33 l1 x5_1).f3)))))) = true := c7
                clear c7
                obtain rfl := Option.some.inj H
                have p303 : 0 ≤ (x5_1 : Int) := of_decide_eq_true (by first | (with_reducible assumption) | assumption)
                have q303 : x5_1 < (l0.length : Int) := of_decide_eq_true (by first | (with_reducible assumption) | assumption)
                obtain ⟨ad303, e303, hx303_0, hx303_1, hx303_2, hx303_3⟩ := at_T33 HR0.out x5_1 p303 q303
                cases e303
                replace p303 := eq_true p303
                replace q303 := eq_true q303
                have p304 : 0 ≤ (x5_1 : Int) := of_decide_eq_true (by first | (with_reducible assumption) | assumption)
                have q304 : x5_1 < (l1.length : Int) := of_decide_eq_true (by first | (with_reducible assumption) | assumption)
                obtain ⟨ad304, e304, hx304_0, hx304_1, hx304_2, hx304_3⟩ := at_T33 HR1.out x5_1 p304 q304
                cases e304
                replace p304 := eq_true p304
                replace q304 := eq_true q304
                go_wp2
                repeat (go_quiet (fail); try go_wp2)
                go_ret
                exact ⟨by first | rfl | (simp; done) | (simp [*]; done), by repeat (first | exact Drawn0.refl _ | apply Drawn0.step)⟩
              · rw [if_neg c7] at H
                have c7b0 : (!(((rd_T33 l0 x5_1).f0) == ((rd_T33 l1 x5_1).f0)) || (!(((rd_T33 l0 x5_1).f1) == ((rd_T33 l1 x5_1).f1)) || (!(((rd_T33 l0 x5_1).f2) == ((rd_T33 l1 x5_1).f2)) || (!(((rd_T33 l0 x5_1).f3) == ((rd_T33 l1 x5_1).f3)))))) = false := by simpa using c7
                clear c7
                have H' := Aside0.mk H
                clear H
                have p303 : 0 ≤ (x5_1 : Int) := of_decide_eq_true (by first | (with_reducible assumption) | assumption)
                have q303 : x5_1 < (l0.length : Int) := of_decide_eq_true (by first | (with_reducible assumption) | assumption)
                obtain ⟨ad303, e303, hx303_0, hx303_1, hx303_2, hx303_3⟩ := at_T33 HR0.out x5_1 p303 q303
                cases e303
                replace p303 := eq_true p303
                replace q303 := eq_true q303
                have p304 : 0 ≤ (x5_1 : Int) := of_decide_eq_true (by first | (with_reducible assumption) | assumption)
                have q304 : x5_1 < (l1.length : Int) := of_decide_eq_true (by first | (with_reducible assumption) | assumption)
                obtain ⟨ad304, e304, hx304_0, hx304_1, hx304_2, hx304_3⟩ := at_T33 HR1.out x5_1 p304 q304
                cases e304
                replace p304 := eq_true p304
                replace q304 := eq_true q304
                go_wp2
                repeat (go_quiet (fail); try go_wp2)
                go_roundg k1
                case measure => have := HK1.out; omega
                case rel => exact ⟨(wrap64 (x5_1 + 1)), (by first | rfl | (simp; done) | (simp [*]; done)), H', ⟨by have := HK1.out; omega⟩, by repeat (first | exact Drawn0.refl _ | apply Drawn0.step)⟩
            · rw [if_neg c6] at H
              exact absurd H (by simp)
          · rw [if_neg c5] at H
            exact absurd H (by simp)
        · rw [if_neg c4] at H
          have c4b0 : decide (x5_1 < (l0.length : Int)) = false := decide_eq_false c4
          clear c4
          obtain rfl := Option.some.inj H
          go_wp2
          repeat (go_quiet (fail); try go_wp2)
          go_ret
          exact ⟨by first | rfl | (simp; done) | (simp [*]; done), by repeat (first | exact Drawn0.refl _ | apply Drawn0.step)⟩
  · rw [if_neg c3] at H
    have c3b0 : ((l0.length : Int) == (l1.length : Int)) = false := beq_eq_false_iff_ne.mpr c3
    have c3b1 : ((l0.length : Int) != (l1.length : Int)) = true := bne_iff_ne.mpr c3
    have c3b2 : (l0.length == l1.length) = false := by first | simpa using c3 | (simp at c3 ⊢; omega)
    obtain rfl := Option.some.inj H
    go_enter Try.func13, Try.ntmps13
    go_wp2
    repeat (go_quiet (fail); try go_wp2)
    go_ret
    exact ⟨by first | rfl | (simp; done) | (simp [*]; done), by repeat (first | exact Drawn0.refl _ | apply Drawn0.step)⟩

-- NOT PRINTED: function 3 (interlocklaw19_SwapDone)

/-! ### interlockref16_Own: function 31 -/
def interlockref16_Own.l0 : Nat → Int → List Int → Int → Option (List Int)
  | 0, _, _, _ => none
  | k + 1, x0, x3, x4 => if x4 < x0 then (if x3.length < 17592186044416 then (interlockref16_Own.l0 k x0 (x3 ++ [x4]) (wrap64 (x4 + 1))) else (none)) else (some x3)
def interlockref16_Own.f (k : Nat) (a0 : Int) : Option (List Int) := interlockref16_Own.l0 k a0 ([] : List Int) 0
theorem interlockref16_Own.mono_l : ∀ k, (∀ y0 y1 y2, LeO (interlockref16_Own.l0 k y0 y1 y2) (interlockref16_Own.l0 (k + 1) y0 y1 y2))
  | 0 => fun _ _ _ r h => by simp [interlockref16_Own.l0] at h
  | k + 1 => by
    have ih0 := interlockref16_Own.mono_l k
    · intro y0 y1 y2
      unfold interlockref16_Own.l0
      repeat' first
      | (with_reducible exact ih0 _ _ _)
      | (with_reducible exact LeO.refl _)
      | (with_reducible exact LeO.none _)
      | (with_reducible refine LeO.ite ?_ ?_)
      | (with_reducible refine LeO.bind ?_ (fun _ => ?_))
      | exact ih0 _ _ _
      | exact LeO.none _
      | refine LeO.ite ?_ ?_
      | refine LeO.bind ?_ (fun _ => ?_)
theorem interlockref16_Own.mono : ∀ a0 k, LeO (interlockref16_Own.f k a0) (interlockref16_Own.f (k + 1) a0) := by
  intro a0 k
  have ih0 := interlockref16_Own.mono_l k
  unfold interlockref16_Own.f
  repeat' first
      | (with_reducible exact ih0 _ _ _)
      | (with_reducible exact LeO.refl _)
      | (with_reducible exact LeO.none _)
      | (with_reducible refine LeO.ite ?_ ?_)
      | (with_reducible refine LeO.bind ?_ (fun _ => ?_))
      | exact ih0 _ _ _
      | exact LeO.none _
      | refine LeO.ite ?_ ?_
      | refine LeO.bind ?_ (fun _ => ?_)
set_option maxHeartbeats 8000000 in
set_option maxRecDepth 100000 in
theorem interlockref16_Own.calls (k : Nat) (a0 : Int) (r : List Int) (w : World) (h : interlockref16_Own.f k a0 = some r) :
    Calls Try.prog 31 #[.int .i64 a0] w fun e w' => ∃ v0_ : Value, e = .returned (v0_) ∧ Kd.R (Kd.int .i64) 3 w' w.heap.size (fun _ => True) v0_ r ∧ Below w.heap.size w w' := by
  have HB := Aside0.mk (Below.refl w.heap.size w)
  have H : (interlockref16_Own.l0 k a0 ([] : List Int) 0) = some r := h
  clear h
  have H' := Aside0.mk H
  clear H
  go_enter Try.func31, Try.ntmps31
  go_wp2
  go_loopg [3, 4] k (fun kq v3 v4 w' => ∃ (x3_1 : List Int) (x4_1 : Int), v4 = .int .i64 x4_1 ∧ Aside0 (interlockref16_Own.l0 kq a0 x3_1 x4_1 = some r) ∧ Aside0 (kq ≤ k) ∧ Aside0 (Kd.R (Kd.int .i64) 3 w' w.heap.size (fun _ => True) v3 x3_1) ∧ Aside0 (Below w.heap.size w w'))
  case atStart => exact ⟨(([] : List Int)), (0), (by first | rfl | (simp; done) | (simp [*]; done)), H', ⟨Nat.le_refl _⟩, ⟨by first | exact Kd.R_nil _ _ _ _ _ | exact Kd.N_nil _ _ _ _ _ | exact Kd.V_nil _ _ _ _ _ | exact Kd.Q_nil _ _ _ _ _ | exact Kd.S_nil _ _ _ _ _⟩, ⟨by repeat (first | (with_reducible first | exact HB.out | apply below_alloc | apply pw_below_drewN | apply below_drew1) | exact HB.out)⟩⟩
  case round =>
    clear H'
    obtain ⟨x3_1, x4_1, rfl, HA, HK1, HO_3, HB⟩ := hrel
    cases gk with
    | zero => exact absurd HA.out (by simp [interlockref16_Own.l0])
    | succ k1 =>
      have H := HA.out
      clear HA
      simp only [interlockref16_Own.l0] at H
      by_cases c2 : x4_1 < a0
      · rw [if_pos c2] at H
        have c2b0 : decide (x4_1 < a0) = true := decide_eq_true c2
        clear c2
        by_cases c3 : x3_1.length < 17592186044416
        · rw [if_pos c3] at H
          have LMc3 := Aside0.mk c3
          clear c3
          obtain ⟨y341, hy341⟩ : ∃ y_ : List Int, y_ = (x3_1 ++ [x4_1]) := ⟨_, rfl⟩
          replace H : (interlockref16_Own.l0 k1 a0 y341 (wrap64 (x4_1 + 1))) = some r := by first | (rw [hy341]; with_reducible exact H) | (have H2_ := (Option.bind_some _ _).symm.trans H; rw [hy341]; with_reducible exact H2_) | (have H2_ := (Option.bind_some _ _).symm.trans H; with_reducible exact H2_) | with_reducible exact H | (rw [hy341]; exact H) | exact H
          have Ny341 := Aside0.mk hy341
          clear hy341
          have H' := Aside0.mk H
          clear H
          go_wp2_with (first | ((with_reducible refine gate_builtin (b := .append) (xs := #[.tmp 10, .tmp 12]) rfl ?_); at_builtin; refine Kd.R_append (Kd.int .i64) (w0 := w) w.heap.size rfl (.tmp 10) (.tmp 12) 23 3 (.int .i64 0) 8 rfl Try.underlying23 info3 rfl (by decide) (by omega) u3 x3_1 x4_1 [.int .i64 x4_1] (fun _ => True) (fun _ => False) rfl rfl ?aP (fun _ hk => hk.elim) ?aF ?aO ?aB ?aS ?aL ?_; (case aP => exact rfl); (case aB => exact (by repeat (first | (with_reducible first | exact HB.out | apply below_alloc | apply pw_below_drewN | apply below_drew1) | exact HB.out))); (case aF => exact (fun _ _ => trivial)); (case aO => exact (by (with_reducible repeat (first | apply Kd.R_alloc | apply Kd.R_drewN | apply Kd.R_drew)); exact HO_3.out)); (case aS => exact (below_size (by repeat (first | (with_reducible first | exact HB.out | apply below_alloc | apply pw_below_drewN | apply below_drew1) | exact HB.out)))); (case aL => have := LMc3.out; omega); intro v342 w4 ho hb hg hat; rw [← Ny341.out] at ho; have n0_ := Aside0.mk (hb); have n1_ := Aside0.mk (ho); clear HB; clear HO_3; have HB := n0_; have HO343 := n1_; clear n0_ n1_; clear ho hb hg hat))
          go_roundg k1
          case measure => have := HK1.out; omega
          case rel => exact ⟨(y341), (wrap64 (x4_1 + 1)), (by first | rfl | (simp; done) | (simp [*]; done)), H', ⟨by have := HK1.out; omega⟩, ⟨by (with_reducible repeat (first | apply Kd.R_alloc | apply Kd.R_drewN | apply Kd.R_drew)); exact HO343.out⟩, ⟨by repeat (first | (with_reducible first | exact HB.out | apply below_alloc | apply pw_below_drewN | apply below_drew1) | exact HB.out)⟩⟩
        · rw [if_neg c3] at H
          exact absurd H (by simp)
      · rw [if_neg c2] at H
        have c2b0 : decide (x4_1 < a0) = false := decide_eq_false c2
        clear c2
        obtain rfl := Option.some.inj H
        go_wp2
        go_ret
        exact ⟨_, by first | rfl | (simp [errW_none, errW_some] <;> rfl) | (simp [*, errW_none, errW_some] <;> rfl), by (with_reducible repeat (first | apply Kd.R_alloc | apply Kd.R_drewN | apply Kd.R_drew)); exact HO_3.out, by repeat (first | (with_reducible first | exact HB.out | apply below_alloc | apply pw_below_drewN | apply below_drew1) | exact HB.out)⟩

/-! ### interlockref19_rank: function 46 -/
def interlockref19_rank.f (a0 : Int) : Option (Int) := if a0 = 7 then (some 0) else (if a0 = 8 then (some 2) else (if a0 = 0 then (some 3) else (some 1)))
set_option maxHeartbeats 8000000 in
set_option maxRecDepth 100000 in
theorem interlockref19_rank.calls (a0 : Int) (r : Int) (w : World) (h : interlockref19_rank.f a0 = some r) :
    Calls Try.prog 46 #[.int .u8 a0] w fun e w' => e = .returned (.int .i64 r) ∧ Drawn0 w w' := by
  have H : (if a0 = 7 then (some 0) else (if a0 = 8 then (some 2) else (if a0 = 0 then (some 3) else (some 1)))) = some r := h
  clear h
  by_cases c2 : a0 = 7
  · rw [if_pos c2] at H
    have c2b0 : (a0 == 7) = true := beq_iff_eq.mpr c2
    have c2b1 : (a0 != 7) = false := bne_eq_false_iff_eq.mpr c2
    clear c2
    obtain rfl := Option.some.inj H
    go_enter Try.func46, Try.ntmps46
    go_wp2
    go_ret
    exact ⟨by first | rfl | (simp; done) | (simp [*]; done), by repeat (first | exact Drawn0.refl _ | apply Drawn0.step)⟩
  · rw [if_neg c2] at H
    have c2b0 : (a0 == 7) = false := beq_eq_false_iff_ne.mpr c2
    have c2b1 : (a0 != 7) = true := bne_iff_ne.mpr c2
    by_cases c3 : a0 = 8
    · rw [if_pos c3] at H
      have c3b0 : (a0 == 8) = true := beq_iff_eq.mpr c3
      have c3b1 : (a0 != 8) = false := bne_eq_false_iff_eq.mpr c3
      clear c3
      obtain rfl := Option.some.inj H
      go_enter Try.func46, Try.ntmps46
      go_wp2
      go_ret
      exact ⟨by first | rfl | (simp; done) | (simp [*]; done), by repeat (first | exact Drawn0.refl _ | apply Drawn0.step)⟩
    · rw [if_neg c3] at H
      have c3b0 : (a0 == 8) = false := beq_eq_false_iff_ne.mpr c3
      have c3b1 : (a0 != 8) = true := bne_iff_ne.mpr c3
      by_cases c4 : a0 = 0
      · rw [if_pos c4] at H
        have c4b0 : (a0 == 0) = true := beq_iff_eq.mpr c4
        have c4b1 : (a0 != 0) = false := bne_eq_false_iff_eq.mpr c4
        clear c4
        obtain rfl := Option.some.inj H
        go_enter Try.func46, Try.ntmps46
        go_wp2
        go_ret
        exact ⟨by first | rfl | (simp; done) | (simp [*]; done), by repeat (first | exact Drawn0.refl _ | apply Drawn0.step)⟩
      · rw [if_neg c4] at H
        have c4b0 : (a0 == 0) = false := beq_eq_false_iff_ne.mpr c4
        have c4b1 : (a0 != 0) = true := bne_iff_ne.mpr c4
        obtain rfl := Option.some.inj H
        go_enter Try.func46, Try.ntmps46
        go_wp2
        go_ret
        exact ⟨by first | rfl | (simp; done) | (simp [*]; done), by repeat (first | exact Drawn0.refl _ | apply Drawn0.step)⟩

end Go.Proofs.Yticdodbnjlnjlaa.P
