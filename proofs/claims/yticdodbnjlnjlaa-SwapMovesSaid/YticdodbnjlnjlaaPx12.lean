-- written by this project's xprint.py (a turn of the kit's printer; its own texts among them)
import Derived.Test.YticdodbnjlnjlaaPx0
import Derived.Test.YticdodbnjlnjlaaPx1
import Derived.Test.YticdodbnjlnjlaaPx3
import Derived.Test.YticdodbnjlnjlaaPx5
import Derived.Test.YticdodbnjlnjlaaPx7
import Derived.Test.YticdodbnjlnjlaaPx8
import Derived.Test.YticdodbnjlnjlaaPx11
namespace Go.Proofs.Yticdodbnjlnjlaa.P
open Go.RowKit Go.Proofs.YticdodbnjlnjlaaW.PrintWords Go.Proofs.YticdodbnjlnjlaaW.PrintLast Go.Proofs.YticdodbnjlnjlaaW.PrintMore
attribute [local go_sem] max2_int min2_int max_two min_two max_three min_three max_four min_four   -- for this text's walks alone
attribute [local irreducible] Calls
set_option linter.unusedVariables false
set_option linter.unusedSimpArgs false

attribute [local go_sem high] eqA33
/-! ### interlocklaw19_known: function 12 -/
def interlocklaw19_known.f (k : Nat)  : Option (Bool) := (swap_Code.f k (([(⟨8, 0, 1, 0⟩ : S33), (⟨7, 2, 1, 0⟩ : S33), (⟨3, 1, 2, 2⟩ : S33)] : List (S33)))).bind fun bt289 => (if (bt289.1.length : Int) = 3 then (if (bt289.2.length : Int) = 3 then (if 0 < (bt289.1.length : Int) then (if ((rd_T33 bt289.1 0).f0) = 7 then (if 1 < (bt289.1.length : Int) then (if ((rd_T33 bt289.1 1).f0) = 8 then (if 2 < (bt289.1.length : Int) then (if ((rd_T33 bt289.1 2).f0) = 3 then (if 0 < (bt289.2.length : Int) then (if (rd bt289.2 0) = 1 then (if 1 < (bt289.2.length : Int) then (if (rd bt289.2 1) = 0 then ((swap_Apart.f k 8 0 0 0 7 1 0 0).bind fun t301 => (if t301 = true then (none) else ((swap_Apart.f k 7 0 0 0 7 1 0 0).bind fun t302 => (some t302)))) else (none)) else (none)) else (none)) else (none)) else (none)) else (none)) else (none)) else (none)) else (none)) else (none)) else (none)) else (none))
theorem interlocklaw19_known.mono : ∀ k, LeO (interlocklaw19_known.f k ) (interlocklaw19_known.f (k + 1) ) := by
  intro  k
  unfold interlocklaw19_known.f
  repeat' first
      | (with_reducible exact swap_Apart.mono _ _ _ _ _ _ _ _ _)
      | (with_reducible exact swap_Code.mono _ _)
      | (with_reducible exact LeO.refl _)
      | (with_reducible exact LeO.none _)
      | (with_reducible refine LeO.ite ?_ ?_)
      | (with_reducible refine LeO.bind ?_ (fun _ => ?_))
      | exact LeO.none _
      | refine LeO.ite ?_ ?_
      | refine LeO.bind ?_ (fun _ => ?_)
set_option maxHeartbeats 8000000 in
set_option maxRecDepth 100000 in
theorem interlocklaw19_known.calls (k : Nat)  (r : Bool) (w : World) (h : interlocklaw19_known.f k  = some r) :
    Calls Try.prog 12 #[] w fun e w' => e = .returned (.bool r) ∧ Below w.heap.size w w' := by
 have hu33 := Try.underlying33
 have hu30 := Try.underlying30
 have HB := Aside0.mk (Below.refl w.heap.size w)
 have H : ((swap_Code.f k (([(⟨8, 0, 1, 0⟩ : S33), (⟨7, 2, 1, 0⟩ : S33), (⟨3, 1, 2, 2⟩ : S33)] : List (S33)))).bind fun bt289 => (if (bt289.1.length : Int) = 3 then (if (bt289.2.length : Int) = 3 then (if 0 < (bt289.1.length : Int) then (if ((rd_T33 bt289.1 0).f0) = 7 then (if 1 < (bt289.1.length : Int) then (if ((rd_T33 bt289.1 1).f0) = 8 then (if 2 < (bt289.1.length : Int) then (if ((rd_T33 bt289.1 2).f0) = 3 then (if 0 < (bt289.2.length : Int) then (if (rd bt289.2 0) = 1 then (if 1 < (bt289.2.length : Int) then (if (rd bt289.2 1) = 0 then ((swap_Apart.f k 8 0 0 0 7 1 0 0).bind fun t301 => (if t301 = true then (none) else ((swap_Apart.f k 7 0 0 0 7 1 0 0).bind fun t302 => (some t302)))) else (none)) else (none)) else (none)) else (none)) else (none)) else (none)) else (none)) else (none)) else (none)) else (none)) else (none)) else (none))) = some r := h
 clear h
 obtain ⟨y286, hy286⟩ : ∃ y_ : List (S33), y_ = (([(⟨8, 0, 1, 0⟩ : S33), (⟨7, 2, 1, 0⟩ : S33), (⟨3, 1, 2, 2⟩ : S33)] : List (S33))) := ⟨_, rfl⟩
 replace H : ((swap_Code.f k y286).bind fun bt289 => (if (bt289.1.length : Int) = 3 then (if (bt289.2.length : Int) = 3 then (if 0 < (bt289.1.length : Int) then (if ((rd_T33 bt289.1 0).f0) = 7 then (if 1 < (bt289.1.length : Int) then (if ((rd_T33 bt289.1 1).f0) = 8 then (if 2 < (bt289.1.length : Int) then (if ((rd_T33 bt289.1 2).f0) = 3 then (if 0 < (bt289.2.length : Int) then (if (rd bt289.2 0) = 1 then (if 1 < (bt289.2.length : Int) then (if (rd bt289.2 1) = 0 then ((swap_Apart.f k 8 0 0 0 7 1 0 0).bind fun t301 => (if t301 = true then (none) else ((swap_Apart.f k 7 0 0 0 7 1 0 0).bind fun t302 => (some t302)))) else (none)) else (none)) else (none)) else (none)) else (none)) else (none)) else (none)) else (none)) else (none)) else (none)) else (none)) else (none))) = some r := by first | (rw [hy286]; with_reducible exact H) | (have H2_ := (Option.bind_some _ _).symm.trans H; rw [hy286]; with_reducible exact H2_) | (have H2_ := (Option.bind_some _ _).symm.trans H; with_reducible exact H2_) | with_reducible exact H | (rw [hy286]; exact H) | exact H
 have Ny286 := Aside0.mk hy286
 clear hy286
 replace H := Option.bind_eq_some_iff.mp H
 obtain ⟨⟨t289, t292⟩, A10, H⟩ := H
 replace H : (if (t289.length : Int) = 3 then (if (t292.length : Int) = 3 then (if 0 < (t289.length : Int) then (if ((rd_T33 t289 0).f0) = 7 then (if 1 < (t289.length : Int) then (if ((rd_T33 t289 1).f0) = 8 then (if 2 < (t289.length : Int) then (if ((rd_T33 t289 2).f0) = 3 then (if 0 < (t292.length : Int) then (if (rd t292 0) = 1 then (if 1 < (t292.length : Int) then (if (rd t292 1) = 0 then ((swap_Apart.f k 8 0 0 0 7 1 0 0).bind fun t301 => (if t301 = true then (none) else ((swap_Apart.f k 7 0 0 0 7 1 0 0).bind fun t302 => (some t302)))) else (none)) else (none)) else (none)) else (none)) else (none)) else (none)) else (none)) else (none)) else (none)) else (none)) else (none)) else (none)) = some r := H
 have A1 := Aside0.mk A10
 clear A10
 by_cases c2 : (t289.length : Int) = 3
 {
 rw [if_pos c2] at H
 have c2b0 : ((t289.length : Int) == 3) = true := beq_iff_eq.mpr c2
 have c2b1 : ((t289.length : Int) != 3) = false := bne_eq_false_iff_eq.mpr c2
 clear c2
 by_cases c3 : (t292.length : Int) = 3
 {
 rw [if_pos c3] at H
 have c3b0 : ((t292.length : Int) == 3) = true := beq_iff_eq.mpr c3
 have c3b1 : ((t292.length : Int) != 3) = false := bne_eq_false_iff_eq.mpr c3
 clear c3
 by_cases c4 : 0 < (t289.length : Int)
 {
 rw [if_pos c4] at H
 have c4b0 : decide (0 < (t289.length : Int)) = true := decide_eq_true c4
 have c4b1 : decide (0 < t289.length) = true := decide_eq_true (by omega)
 clear c4
 by_cases c5 : ((rd_T33 t289 0).f0) = 7
 {
 rw [if_pos c5] at H
 have c5b0 : (((rd_T33 t289 0).f0) == 7) = true := beq_iff_eq.mpr c5
 have c5b1 : (((rd_T33 t289 0).f0) != 7) = false := bne_eq_false_iff_eq.mpr c5
 clear c5
 by_cases c6 : 1 < (t289.length : Int)
 {
 rw [if_pos c6] at H
 have c6b0 : decide (1 < (t289.length : Int)) = true := decide_eq_true c6
 have c6b1 : decide (1 < t289.length) = true := decide_eq_true (by omega)
 clear c6
 by_cases c7 : ((rd_T33 t289 1).f0) = 8
 {
 rw [if_pos c7] at H
 have c7b0 : (((rd_T33 t289 1).f0) == 8) = true := beq_iff_eq.mpr c7
 have c7b1 : (((rd_T33 t289 1).f0) != 8) = false := bne_eq_false_iff_eq.mpr c7
 clear c7
 by_cases c8 : 2 < (t289.length : Int)
 {
 rw [if_pos c8] at H
 have c8b0 : decide (2 < (t289.length : Int)) = true := decide_eq_true c8
 have c8b1 : decide (2 < t289.length) = true := decide_eq_true (by omega)
 clear c8
 by_cases c9 : ((rd_T33 t289 2).f0) = 3
 {
 rw [if_pos c9] at H
 have c9b0 : (((rd_T33 t289 2).f0) == 3) = true := beq_iff_eq.mpr c9
 have c9b1 : (((rd_T33 t289 2).f0) != 3) = false := bne_eq_false_iff_eq.mpr c9
 clear c9
 by_cases c10 : 0 < (t292.length : Int)
 {
 rw [if_pos c10] at H
 have c10b0 : decide (0 < (t292.length : Int)) = true := decide_eq_true c10
 have c10b1 : decide (0 < t292.length) = true := decide_eq_true (by omega)
 clear c10
 by_cases c11 : (rd t292 0) = 1
 {
 rw [if_pos c11] at H
 have c11b0 : ((rd t292 0) == 1) = true := beq_iff_eq.mpr c11
 have c11b1 : ((rd t292 0) != 1) = false := bne_eq_false_iff_eq.mpr c11
 clear c11
 by_cases c12 : 1 < (t292.length : Int)
 {
 rw [if_pos c12] at H
 have c12b0 : decide (1 < (t292.length : Int)) = true := decide_eq_true c12
 have c12b1 : decide (1 < t292.length) = true := decide_eq_true (by omega)
 clear c12
 by_cases c13 : (rd t292 1) = 0
 {
 rw [if_pos c13] at H
 have c13b0 : ((rd t292 1) == 0) = true := beq_iff_eq.mpr c13
 have c13b1 : ((rd t292 1) != 0) = false := bne_eq_false_iff_eq.mpr c13
 clear c13
 replace H := Option.bind_eq_some_iff.mp H
 obtain ⟨t301, A140, H⟩ := H
 replace H : (if t301 = true then (none) else ((swap_Apart.f k 7 0 0 0 7 1 0 0).bind fun t302 => (some t302))) = some r := H
 have A14 := Aside0.mk A140
 clear A140
 by_cases c15 : t301 = true
 {
 subst c15
 have H1 : (none) = some r := by rw [if_pos rfl] at H; exact H
 clear H
 have H := H1
 clear H1
 exact absurd H (by simp)
 }
 {
 replace c15 := Bool.eq_false_iff.mpr c15
 subst c15
 have H1 : ((swap_Apart.f k 7 0 0 0 7 1 0 0).bind fun t302 => (some t302)) = some r := by rw [if_neg (show ¬ (false = true) by decide)] at H; exact H
 clear H
 have H := H1
 clear H1
 replace H := Option.bind_eq_some_iff.mp H
 obtain ⟨t302, A160, H⟩ := H
 replace H : (some t302) = some r := H
 have A16 := Aside0.mk A160
 clear A160
 obtain rfl := Option.some.inj H
 go_enter Try.func12, Try.ntmps12
 go_wp2_with (first | ((with_reducible refine gate_dst (N := 5) rfl ?_); (try (refine gate_guard (by rfl) ?_; dsimp only)); refine Kd.R_lit k33 _ 33 ?hg (N := 5) ?hd (xs := ([(⟨8, 0, 1, 0⟩ : S33), (⟨7, 2, 1, 0⟩ : S33), (⟨3, 1, 2, 2⟩ : S33)] : List (S33))) (inner := [.int .u8 8, .int .i64 0, .int .i64 1, .int .i64 0, .int .u8 7, .int .i64 2, .int .i64 1, .int .i64 0, .int .u8 3, .int .i64 1, .int .i64 2, .int .i64 2]) (ok := fun _ => True) (okp := fun _ => True) ?hr ?hp (fun _ hk => hk) trivial (Below.refl _ _) (Nat.le_refl _) (by simp) ?_; (case hd => rfl); (case hg => rfl); (case hr => first | (go_simp; done) | (go_simp; rfl)); (case hp => exact (Reps.c4 (show Kd.M k33 _ _ _ (⟨8, 0, 1, 0⟩ : S33) [.int .u8 8, .int .i64 0, .int .i64 1, .int .i64 0] from (k33_mkM _ _ _ (⟨8, 0, 1, 0⟩ : S33) )) (Reps.c4 (show Kd.M k33 _ _ _ (⟨7, 2, 1, 0⟩ : S33) [.int .u8 7, .int .i64 2, .int .i64 1, .int .i64 0] from (k33_mkM _ _ _ (⟨7, 2, 1, 0⟩ : S33) )) (Reps.c4 (show Kd.M k33 _ _ _ (⟨3, 1, 2, 2⟩ : S33) [.int .u8 3, .int .i64 1, .int .i64 2, .int .i64 2] from (k33_mkM _ _ _ (⟨3, 1, 2, 2⟩ : S33) )) (Reps.none _ _))))); intro v287 w17 ho18 hb hg_ hnew_; clear hg_ hnew_; (first | rw [← Ny286.out] at ho18 | (simp only [Int.reduceToNat] at ho18; rw [← Ny286.out] at ho18)); have n0_ := Aside0.mk (Kd.R_lower ho18 (below_size (by repeat (first | (with_reducible first | exact HB.out | apply below_alloc | apply pw_below_drewN | apply below_drew1) | exact HB.out)))); have n1_ := Aside0.mk (below_step (by repeat (first | (with_reducible first | exact HB.out | apply below_alloc | apply pw_below_drewN | apply below_drew1) | exact HB.out)) hb); clear HB; have HO288 := n0_; have HB := n1_; clear n0_ n1_; clear hb ho18; obtain ⟨Ao19, co19, eo19⟩ := Kd.R_slice HO288.out; subst eo19) | ((with_reducible refine gate_callee (f := 9) rfl ?_); refine goesL_ (some 6) rfl rfl Try.func9 (by kernel_rfl) rfl #[.slice Ao19 y286.length co19] rfl (by (try simp only [List.map_toArray, List.map_cons, List.map_nil]); first | done | rfl | (simp only [List.length_drop, List.length_take]; rfl)) ?_; (with_reducible refine (swap_Code.calls k _ _ y286 t289 t292 _ ?side1 ?side2 A1.out).mono ?_); (case side1 => repeat (first | exact (Kd.R_reads' HO288.out).2.2 | (with_reducible refine Kd.C_alloc ?_ _) | (with_reducible refine Kd.C_drewN ?_ _) | (with_reducible refine Kd.C_drew ?_))); (case side2 => exact (Kd.R_reads' HO288.out).2.1); rintro e w20 ⟨v290, v293, rfl, ho0, ho1, hb⟩; refine ⟨_, rfl, ?_⟩; have n0_ := Aside0.mk (Kd.R_elder' (by (with_reducible repeat (first | apply Kd.R_alloc | apply Kd.R_drewN | apply Kd.R_drew)); exact HO288.out) (Kd.R_base ho0) hb); have n1_ := Aside0.mk (Kd.R_lower (Kd.R_new' ho0 (Kd.R_lt (by (with_reducible repeat (first | apply Kd.R_alloc | apply Kd.R_drewN | apply Kd.R_drew)); exact HO288.out))) (below_size (by repeat (first | (with_reducible first | exact HB.out | apply below_alloc | apply pw_below_drewN | apply below_drew1) | exact HB.out)))); have n2_ := Aside0.mk (Kd.R_lower ho1 (below_size (by repeat (first | (with_reducible first | exact HB.out | apply below_alloc | apply pw_below_drewN | apply below_drew1) | exact HB.out)))); have n3_ := Aside0.mk (below_step (by repeat (first | (with_reducible first | exact HB.out | apply below_alloc | apply pw_below_drewN | apply below_drew1) | exact HB.out)) hb); clear HO288; clear HB; have HO288 := n0_; have HO291 := n1_; have HO294 := n2_; have HB := n3_; clear n0_ n1_ n2_ n3_; (try clear hb); (try clear hb2); (try clear hk); (try clear hi); (try clear ho0); (try clear ho1)) | ((with_reducible refine gate_dst (N := 1) rfl ?_); (try (refine gate_guard (by rfl) ?_; dsimp only)); refine box_event ?hg (N := 1) ?hd (cs := #[.slice none 0 0, .slice none 0 0]) (t := 30) ?hr ?_; (case hd => rfl); (case hg => rfl); (case hr => first | (go_simp; done) | (go_simp; rfl)); intro gb295 hg w21 hbox hb; have n0_ := Aside0.mk (Kd.R_below (by (with_reducible repeat (first | apply Kd.R_alloc | apply Kd.R_drewN | apply Kd.R_drew)); exact HO288.out) hb); have n1_ := Aside0.mk (Kd.R_below (by (with_reducible repeat (first | apply Kd.R_alloc | apply Kd.R_drewN | apply Kd.R_drew)); exact HO291.out) hb); have n2_ := Aside0.mk (Kd.R_below (by (with_reducible repeat (first | apply Kd.R_alloc | apply Kd.R_drewN | apply Kd.R_drew)); exact HO294.out) hb); have n3_ := Aside0.mk (below_step (by repeat (first | (with_reducible first | exact HB.out | apply below_alloc | apply pw_below_drewN | apply below_drew1) | exact HB.out)) hb); have n4_ := Aside0.mk (hbox); have n5_ := Aside0.mk ((by rw [hg]; exact (below_size (by repeat (first | (with_reducible first | exact HB.out | apply below_alloc | apply pw_below_drewN | apply below_drew1) | exact HB.out))) : w.heap.size ≤ gb295)); have n6_ := Aside0.mk ((by rw [hg]; exact (below_size (by repeat (first | (with_reducible first | exact HB.out | apply below_alloc | apply pw_below_drewN | apply below_drew1) | exact HB.out))) : w.heap.size ≤ gb295)); clear HO288; clear HO291; clear HO294; clear HB; have HO288 := n0_; have HO291 := n1_; have HO294 := n2_; have HB := n3_; have BK295 := n4_; have GW295 := n5_; have GE295 := n6_; clear n0_ n1_ n2_ n3_ n4_ n5_ n6_; clear hb hbox hg; obtain ⟨Ao22, co22, eo22⟩ := Kd.R_slice HO291.out; subst eo22; have hcz23_0 : w21.cell? ⟨gb295, 0, none⟩ = some (.slice none 0 0) := (blk_cell BK295.out 0).trans rfl; have hcz23_1 : w21.cell? ⟨gb295, 1, none⟩ = some (.slice none 0 0) := (blk_cell BK295.out 1).trans rfl; have hfz23_0 := blk_frozen BK295.out 0; have hfz23_1 := blk_frozen BK295.out 1; obtain ⟨Ao24, co24, eo24⟩ := Kd.R_slice HO294.out; subst eo24; have p296 : 0 ≤ (0 : Int) := (by omega); have q296 : 0 < (t289.length : Int) := of_decide_eq_true (by first | (with_reducible assumption) | assumption); obtain ⟨ad296, e296, hx296_0, hx296_1, hx296_2, hx296_3⟩ := at_T33 (Kd.R_reads' HO291.out).2.2 0 p296 q296; cases e296; have qi296 : (0 < t289.length) = True := eq_true (by omega); (try rw [show ((0 : Int)).toNat = 0 from rfl] at hx296_0); (try rw [show 0 * 4 = 0 from rfl] at hx296_0); (try rw [Addr.add_zero'] at hx296_0); (try rw [show ((0 : Int)).toNat = 0 from rfl] at hx296_1); (try rw [show 0 * 4 = 0 from rfl] at hx296_1); (try rw [Addr.add_zero'] at hx296_1); (try rw [show ((0 : Int)).toNat = 0 from rfl] at hx296_2); (try rw [show 0 * 4 = 0 from rfl] at hx296_2); (try rw [Addr.add_zero'] at hx296_2); (try rw [show ((0 : Int)).toNat = 0 from rfl] at hx296_3); (try rw [show 0 * 4 = 0 from rfl] at hx296_3); (try rw [Addr.add_zero'] at hx296_3); have hn296_0 : ad296.block ≠ gb295 := Kd.own_blk (Kd.R_ne HO291.out BK295.out (by decide)); have hn296_1 : ad296.block ≠ gb295 := Kd.own_blk (Kd.R_ne HO291.out BK295.out (by decide)); replace hx296_0 := (cell_far (p := ⟨gb295, 0, none⟩) (by first | (rw [add_block]; exact hn296_0) | (show (Addr.add _ _).block ≠ _; rw [add_block]; exact hn296_0) | exact hn296_0) (.slice (some ad296) t289.length co22)).trans hx296_0; replace hx296_1 := (cell_far (p := ⟨gb295, 0, none⟩) (by first | (rw [add_block]; exact hn296_0) | (show (Addr.add _ _).block ≠ _; rw [add_block]; exact hn296_0) | exact hn296_0) (.slice (some ad296) t289.length co22)).trans hx296_1; replace hx296_2 := (cell_far (p := ⟨gb295, 0, none⟩) (by first | (rw [add_block]; exact hn296_0) | (show (Addr.add _ _).block ≠ _; rw [add_block]; exact hn296_0) | exact hn296_0) (.slice (some ad296) t289.length co22)).trans hx296_2; replace hx296_3 := (cell_far (p := ⟨gb295, 0, none⟩) (by first | (rw [add_block]; exact hn296_0) | (show (Addr.add _ _).block ≠ _; rw [add_block]; exact hn296_0) | exact hn296_0) (.slice (some ad296) t289.length co22)).trans hx296_3; replace hx296_0 := (cell_far (p := ⟨gb295, 1, none⟩) (by first | (rw [add_block]; exact hn296_1) | (show (Addr.add _ _).block ≠ _; rw [add_block]; exact hn296_1) | exact hn296_1) (.slice Ao24 t292.length co24)).trans hx296_0; replace hx296_1 := (cell_far (p := ⟨gb295, 1, none⟩) (by first | (rw [add_block]; exact hn296_1) | (show (Addr.add _ _).block ≠ _; rw [add_block]; exact hn296_1) | exact hn296_1) (.slice Ao24 t292.length co24)).trans hx296_1; replace hx296_2 := (cell_far (p := ⟨gb295, 1, none⟩) (by first | (rw [add_block]; exact hn296_1) | (show (Addr.add _ _).block ≠ _; rw [add_block]; exact hn296_1) | exact hn296_1) (.slice Ao24 t292.length co24)).trans hx296_2; replace hx296_3 := (cell_far (p := ⟨gb295, 1, none⟩) (by first | (rw [add_block]; exact hn296_1) | (show (Addr.add _ _).block ≠ _; rw [add_block]; exact hn296_1) | exact hn296_1) (.slice Ao24 t292.length co24)).trans hx296_3; clear hn296_0; clear hn296_1; replace p296 := eq_true p296; replace q296 := eq_true q296; have p297 : 0 ≤ (1 : Int) := (by omega); have q297 : 1 < (t289.length : Int) := of_decide_eq_true (by first | (with_reducible assumption) | assumption); obtain ⟨ad297, e297, hx297_0, hx297_1, hx297_2, hx297_3⟩ := at_T33 (Kd.R_reads' HO291.out).2.2 1 p297 q297; obtain rfl : ad296 = ad297 := (by injection e297); (try simp only [show (1 : Int).toNat = 1 from rfl, Nat.reduceMul, Nat.reduceEqDiff, Go.Addr.add, ↓reduceIte] at hx297_0); (try simp only [show (1 : Int).toNat = 1 from rfl, Nat.reduceMul, Nat.reduceEqDiff, Go.Addr.add, ↓reduceIte] at hx297_1); (try simp only [show (1 : Int).toNat = 1 from rfl, Nat.reduceMul, Nat.reduceEqDiff, Go.Addr.add, ↓reduceIte] at hx297_2); (try simp only [show (1 : Int).toNat = 1 from rfl, Nat.reduceMul, Nat.reduceEqDiff, Go.Addr.add, ↓reduceIte] at hx297_3); have qi297 : (1 < t289.length) = True := eq_true (by omega); (try rw [show ((1 : Int)).toNat = 1 from rfl] at hx297_0); (try rw [show 1 * 4 = 4 from rfl] at hx297_0); (try rw [show ((1 : Int)).toNat = 1 from rfl] at hx297_1); (try rw [show 1 * 4 = 4 from rfl] at hx297_1); (try rw [show ((1 : Int)).toNat = 1 from rfl] at hx297_2); (try rw [show 1 * 4 = 4 from rfl] at hx297_2); (try rw [show ((1 : Int)).toNat = 1 from rfl] at hx297_3); (try rw [show 1 * 4 = 4 from rfl] at hx297_3); have hn297_0 : ad296.block ≠ gb295 := Kd.own_blk (Kd.R_ne HO291.out BK295.out (by decide)); have hn297_1 : ad296.block ≠ gb295 := Kd.own_blk (Kd.R_ne HO291.out BK295.out (by decide)); replace hx297_0 := (cell_far (p := ⟨gb295, 0, none⟩) (by first | (rw [add_block]; exact hn297_0) | (show (Addr.add _ _).block ≠ _; rw [add_block]; exact hn297_0) | exact hn297_0) (.slice (some ad296) t289.length co22)).trans hx297_0; replace hx297_1 := (cell_far (p := ⟨gb295, 0, none⟩) (by first | (rw [add_block]; exact hn297_0) | (show (Addr.add _ _).block ≠ _; rw [add_block]; exact hn297_0) | exact hn297_0) (.slice (some ad296) t289.length co22)).trans hx297_1; replace hx297_2 := (cell_far (p := ⟨gb295, 0, none⟩) (by first | (rw [add_block]; exact hn297_0) | (show (Addr.add _ _).block ≠ _; rw [add_block]; exact hn297_0) | exact hn297_0) (.slice (some ad296) t289.length co22)).trans hx297_2; replace hx297_3 := (cell_far (p := ⟨gb295, 0, none⟩) (by first | (rw [add_block]; exact hn297_0) | (show (Addr.add _ _).block ≠ _; rw [add_block]; exact hn297_0) | exact hn297_0) (.slice (some ad296) t289.length co22)).trans hx297_3; replace hx297_0 := (cell_far (p := ⟨gb295, 1, none⟩) (by first | (rw [add_block]; exact hn297_1) | (show (Addr.add _ _).block ≠ _; rw [add_block]; exact hn297_1) | exact hn297_1) (.slice Ao24 t292.length co24)).trans hx297_0; replace hx297_1 := (cell_far (p := ⟨gb295, 1, none⟩) (by first | (rw [add_block]; exact hn297_1) | (show (Addr.add _ _).block ≠ _; rw [add_block]; exact hn297_1) | exact hn297_1) (.slice Ao24 t292.length co24)).trans hx297_1; replace hx297_2 := (cell_far (p := ⟨gb295, 1, none⟩) (by first | (rw [add_block]; exact hn297_1) | (show (Addr.add _ _).block ≠ _; rw [add_block]; exact hn297_1) | exact hn297_1) (.slice Ao24 t292.length co24)).trans hx297_2; replace hx297_3 := (cell_far (p := ⟨gb295, 1, none⟩) (by first | (rw [add_block]; exact hn297_1) | (show (Addr.add _ _).block ≠ _; rw [add_block]; exact hn297_1) | exact hn297_1) (.slice Ao24 t292.length co24)).trans hx297_3; clear hn297_0; clear hn297_1; replace p297 := eq_true p297; replace q297 := eq_true q297; have p298 : 0 ≤ (2 : Int) := (by omega); have q298 : 2 < (t289.length : Int) := of_decide_eq_true (by first | (with_reducible assumption) | assumption); obtain ⟨ad298, e298, hx298_0, hx298_1, hx298_2, hx298_3⟩ := at_T33 (Kd.R_reads' HO291.out).2.2 2 p298 q298; obtain rfl : ad296 = ad298 := (by injection e298); (try simp only [show (2 : Int).toNat = 2 from rfl, Nat.reduceMul, Nat.reduceEqDiff, Go.Addr.add, ↓reduceIte] at hx298_0); (try simp only [show (2 : Int).toNat = 2 from rfl, Nat.reduceMul, Nat.reduceEqDiff, Go.Addr.add, ↓reduceIte] at hx298_1); (try simp only [show (2 : Int).toNat = 2 from rfl, Nat.reduceMul, Nat.reduceEqDiff, Go.Addr.add, ↓reduceIte] at hx298_2); (try simp only [show (2 : Int).toNat = 2 from rfl, Nat.reduceMul, Nat.reduceEqDiff, Go.Addr.add, ↓reduceIte] at hx298_3); have qi298 : (2 < t289.length) = True := eq_true (by omega); (try rw [show ((2 : Int)).toNat = 2 from rfl] at hx298_0); (try rw [show 2 * 4 = 8 from rfl] at hx298_0); (try rw [show ((2 : Int)).toNat = 2 from rfl] at hx298_1); (try rw [show 2 * 4 = 8 from rfl] at hx298_1); (try rw [show ((2 : Int)).toNat = 2 from rfl] at hx298_2); (try rw [show 2 * 4 = 8 from rfl] at hx298_2); (try rw [show ((2 : Int)).toNat = 2 from rfl] at hx298_3); (try rw [show 2 * 4 = 8 from rfl] at hx298_3); have hn298_0 : ad296.block ≠ gb295 := Kd.own_blk (Kd.R_ne HO291.out BK295.out (by decide)); have hn298_1 : ad296.block ≠ gb295 := Kd.own_blk (Kd.R_ne HO291.out BK295.out (by decide)); replace hx298_0 := (cell_far (p := ⟨gb295, 0, none⟩) (by first | (rw [add_block]; exact hn298_0) | (show (Addr.add _ _).block ≠ _; rw [add_block]; exact hn298_0) | exact hn298_0) (.slice (some ad296) t289.length co22)).trans hx298_0; replace hx298_1 := (cell_far (p := ⟨gb295, 0, none⟩) (by first | (rw [add_block]; exact hn298_0) | (show (Addr.add _ _).block ≠ _; rw [add_block]; exact hn298_0) | exact hn298_0) (.slice (some ad296) t289.length co22)).trans hx298_1; replace hx298_2 := (cell_far (p := ⟨gb295, 0, none⟩) (by first | (rw [add_block]; exact hn298_0) | (show (Addr.add _ _).block ≠ _; rw [add_block]; exact hn298_0) | exact hn298_0) (.slice (some ad296) t289.length co22)).trans hx298_2; replace hx298_3 := (cell_far (p := ⟨gb295, 0, none⟩) (by first | (rw [add_block]; exact hn298_0) | (show (Addr.add _ _).block ≠ _; rw [add_block]; exact hn298_0) | exact hn298_0) (.slice (some ad296) t289.length co22)).trans hx298_3; replace hx298_0 := (cell_far (p := ⟨gb295, 1, none⟩) (by first | (rw [add_block]; exact hn298_1) | (show (Addr.add _ _).block ≠ _; rw [add_block]; exact hn298_1) | exact hn298_1) (.slice Ao24 t292.length co24)).trans hx298_0; replace hx298_1 := (cell_far (p := ⟨gb295, 1, none⟩) (by first | (rw [add_block]; exact hn298_1) | (show (Addr.add _ _).block ≠ _; rw [add_block]; exact hn298_1) | exact hn298_1) (.slice Ao24 t292.length co24)).trans hx298_1; replace hx298_2 := (cell_far (p := ⟨gb295, 1, none⟩) (by first | (rw [add_block]; exact hn298_1) | (show (Addr.add _ _).block ≠ _; rw [add_block]; exact hn298_1) | exact hn298_1) (.slice Ao24 t292.length co24)).trans hx298_2; replace hx298_3 := (cell_far (p := ⟨gb295, 1, none⟩) (by first | (rw [add_block]; exact hn298_1) | (show (Addr.add _ _).block ≠ _; rw [add_block]; exact hn298_1) | exact hn298_1) (.slice Ao24 t292.length co24)).trans hx298_3; clear hn298_0; clear hn298_1; replace p298 := eq_true p298; replace q298 := eq_true q298; have p299 : 0 ≤ (0 : Int) := (by omega); have q299 : 0 < (t292.length : Int) := of_decide_eq_true (by first | (with_reducible assumption) | assumption); obtain ⟨ad299, e299, hx299_0⟩ := Kd.at_int (Kd.R_reads' HO294.out).2.2 0 p299 q299; cases e299; have qi299 : (0 < t292.length) = True := eq_true (by omega); (try rw [show ((0 : Int)).toNat = 0 from rfl] at hx299_0); (try rw [Addr.add_zero'] at hx299_0); have hn299_0 : ad299.block ≠ gb295 := Kd.own_blk (Kd.R_ne HO294.out BK295.out (by decide)); have hn299_1 : ad299.block ≠ gb295 := Kd.own_blk (Kd.R_ne HO294.out BK295.out (by decide)); replace hx299_0 := (cell_far (p := ⟨gb295, 0, none⟩) (by first | (rw [add_block]; exact hn299_0) | (show (Addr.add _ _).block ≠ _; rw [add_block]; exact hn299_0) | exact hn299_0) (.slice (some ad296) t289.length co22)).trans hx299_0; replace hx299_0 := (cell_far (p := ⟨gb295, 1, none⟩) (by first | (rw [add_block]; exact hn299_1) | (show (Addr.add _ _).block ≠ _; rw [add_block]; exact hn299_1) | exact hn299_1) (.slice (some ad299) t292.length co24)).trans hx299_0; clear hn299_0; clear hn299_1; replace p299 := eq_true p299; replace q299 := eq_true q299; have p300 : 0 ≤ (1 : Int) := (by omega); have q300 : 1 < (t292.length : Int) := of_decide_eq_true (by first | (with_reducible assumption) | assumption); obtain ⟨ad300, e300, hx300_0⟩ := Kd.at_int (Kd.R_reads' HO294.out).2.2 1 p300 q300; obtain rfl : ad299 = ad300 := (by injection e300); (try simp only [show (1 : Int).toNat = 1 from rfl, Nat.reduceMul, Nat.reduceEqDiff, Go.Addr.add, ↓reduceIte] at hx300_0); have qi300 : (1 < t292.length) = True := eq_true (by omega); (try rw [show ((1 : Int)).toNat = 1 from rfl] at hx300_0); have hn300_0 : ad299.block ≠ gb295 := Kd.own_blk (Kd.R_ne HO294.out BK295.out (by decide)); have hn300_1 : ad299.block ≠ gb295 := Kd.own_blk (Kd.R_ne HO294.out BK295.out (by decide)); replace hx300_0 := (cell_far (p := ⟨gb295, 0, none⟩) (by first | (rw [add_block]; exact hn300_0) | (show (Addr.add _ _).block ≠ _; rw [add_block]; exact hn300_0) | exact hn300_0) (.slice (some ad296) t289.length co22)).trans hx300_0; replace hx300_0 := (cell_far (p := ⟨gb295, 1, none⟩) (by first | (rw [add_block]; exact hn300_1) | (show (Addr.add _ _).block ≠ _; rw [add_block]; exact hn300_1) | exact hn300_1) (.slice (some ad299) t292.length co24)).trans hx300_0; clear hn300_0; clear hn300_1; replace p300 := eq_true p300; replace q300 := eq_true q300) | (go_at_call 17; (with_reducible refine (swap_Apart.calls k 8 0 0 0 7 1 0 0 false _ A14.out).mono ?_); rintro e w25 ⟨rfl, hb⟩; have n0_ := Aside0.mk (Kd.R_below (by (with_reducible repeat (first | apply Kd.R_alloc | apply Kd.R_drewN | apply Kd.R_drew)); exact (Kd.R_mono (Kd.R_far (p := ⟨gb295, 1, none⟩) (Kd.R_far (p := ⟨gb295, 0, none⟩) (Kd.R_types HO288.out BK295.out (by decide)) (fun _ hk => hk.2) (.slice (some ad296) t289.length co22)) (fun _ hk => hk.2) (.slice (some ad299) t292.length co24)) (fun _ h_ => h_.1))) hb); have n1_ := Aside0.mk (Kd.R_below (by (with_reducible repeat (first | apply Kd.R_alloc | apply Kd.R_drewN | apply Kd.R_drew)); exact (Kd.R_mono (Kd.R_far (p := ⟨gb295, 1, none⟩) (Kd.R_far (p := ⟨gb295, 0, none⟩) (Kd.R_types HO291.out BK295.out (by decide)) (fun _ hk => hk.2) (.slice (some ad296) t289.length co22)) (fun _ hk => hk.2) (.slice (some ad299) t292.length co24)) (fun _ h_ => h_.1))) hb); have n2_ := Aside0.mk (Kd.R_below (by (with_reducible repeat (first | apply Kd.R_alloc | apply Kd.R_drewN | apply Kd.R_drew)); exact (Kd.R_mono (Kd.R_far (p := ⟨gb295, 1, none⟩) (Kd.R_far (p := ⟨gb295, 0, none⟩) (Kd.R_types HO294.out BK295.out (by decide)) (fun _ hk => hk.2) (.slice (some ad296) t289.length co22)) (fun _ hk => hk.2) (.slice (some ad299) t292.length co24)) (fun _ h_ => h_.1))) hb); have n3_ := Aside0.mk (blk_below (g := gb295) (o := .cells #[.slice (some ad296) t289.length co22, .slice (some ad299) t292.length co24] 30 (0, 0)) (by (with_reducible repeat (first | refine blk_drewN ?_ _ | refine blk_drew ?_ | refine blk_alloc ?_ _)); refine blk_put (cs := #[.slice (some ad296) t289.length co22, .slice none 0 0]) ?_ 1 _ rfl; (with_reducible repeat (first | refine blk_drewN ?_ _ | refine blk_drew ?_ | refine blk_alloc ?_ _)); refine blk_put (cs := #[.slice none 0 0, .slice none 0 0]) ?_ 0 _ rfl; (with_reducible repeat (first | refine blk_drewN ?_ _ | refine blk_drew ?_ | refine blk_alloc ?_ _)); exact BK295.out) hb); have n4_ := Aside0.mk (below_step (by repeat (first | (with_reducible first | exact HB.out | apply below_alloc | apply pw_below_drewN | apply below_drew1 | refine below_set ?_ GE295.out) | exact HB.out)) hb); clear HO288; clear HO291; clear HO294; clear BK295; clear HB; have HO288 := n0_; have HO291 := n1_; have HO294 := n2_; have BK295 := n3_; have HB := n4_; clear n0_ n1_ n2_ n3_ n4_; (try clear hb); (try clear hb2); (try clear hk); (try clear hi)) | (go_at_call 17; (with_reducible refine (swap_Apart.calls k 7 0 0 0 7 1 0 0 t302 _ A16.out).mono ?_); rintro e w26 ⟨rfl, hb⟩; have n0_ := Aside0.mk (Kd.R_below (by (with_reducible repeat (first | apply Kd.R_alloc | apply Kd.R_drewN | apply Kd.R_drew)); exact HO288.out) hb); have n1_ := Aside0.mk (Kd.R_below (by (with_reducible repeat (first | apply Kd.R_alloc | apply Kd.R_drewN | apply Kd.R_drew)); exact HO291.out) hb); have n2_ := Aside0.mk (Kd.R_below (by (with_reducible repeat (first | apply Kd.R_alloc | apply Kd.R_drewN | apply Kd.R_drew)); exact HO294.out) hb); have n3_ := Aside0.mk (blk_below (g := gb295) (o := .cells #[.slice (some ad296) t289.length co22, .slice (some ad299) t292.length co24] 30 (0, 0)) (by (with_reducible repeat (first | refine blk_drewN ?_ _ | refine blk_drew ?_ | refine blk_alloc ?_ _)); exact BK295.out) hb); have n4_ := Aside0.mk (below_step (by repeat (first | (with_reducible first | exact HB.out | apply below_alloc | apply pw_below_drewN | apply below_drew1 | refine below_set ?_ GE295.out) | exact HB.out)) hb); clear HO288; clear HO291; clear HO294; clear BK295; clear HB; have HO288 := n0_; have HO291 := n1_; have HO294 := n2_; have BK295 := n3_; have HB := n4_; clear n0_ n1_ n2_ n3_ n4_; (try clear hb); (try clear hb2); (try clear hk); (try clear hi)))
 go_ret
 exact ⟨by first | rfl | (simp [errW_none, errW_some] <;> rfl) | (simp [*, errW_none, errW_some] <;> rfl), by repeat (first | (with_reducible first | exact HB.out | apply below_alloc | apply pw_below_drewN | apply below_drew1 | refine below_set ?_ GE295.out) | exact HB.out)⟩
 }
 }
 {
 rw [if_neg c13] at H
 exact absurd H (by simp)
 }
 }
 {
 rw [if_neg c12] at H
 exact absurd H (by simp)
 }
 }
 {
 rw [if_neg c11] at H
 exact absurd H (by simp)
 }
 }
 {
 rw [if_neg c10] at H
 exact absurd H (by simp)
 }
 }
 {
 rw [if_neg c9] at H
 exact absurd H (by simp)
 }
 }
 {
 rw [if_neg c8] at H
 exact absurd H (by simp)
 }
 }
 {
 rw [if_neg c7] at H
 exact absurd H (by simp)
 }
 }
 {
 rw [if_neg c6] at H
 exact absurd H (by simp)
 }
 }
 {
 rw [if_neg c5] at H
 exact absurd H (by simp)
 }
 }
 {
 rw [if_neg c4] at H
 exact absurd H (by simp)
 }
 }
 {
 rw [if_neg c3] at H
 exact absurd H (by simp)
 }
 }
 {
 rw [if_neg c2] at H
 exact absurd H (by simp)
 }
/-! ### interlockref02_SameCode: function 13 -/
def interlockref02_SameCode.l0 : Nat → List (S33) → List (S33) → Int → Option (Bool)
  | 0, _, _, _ => none
  | k + 1, x0, x1, x5 => if x5 < (x0.length : Int) then (if 0 ≤ x5 then (if x5 < (x1.length : Int) then (if (!(((rd_T33 x0 x5).f0) == ((rd_T33 x1 x5).f0)) || (!(((rd_T33 x0 x5).f1) == ((rd_T33 x1 x5).f1)) || (!(((rd_T33 x0 x5).f2) == ((rd_T33 x1 x5).f2)) || (!(((rd_T33 x0 x5).f3) == ((rd_T33 x1 x5).f3)))))) = true then (some false) else (interlockref02_SameCode.l0 k x0 x1 (wrap64 (x5 + 1)))) else (none)) else (none)) else (some true)
def interlockref02_SameCode.f (k : Nat) (l0 : List (S33)) (l1 : List (S33)) : Option (Bool) := if (l0.length : Int) = (l1.length : Int) then (interlockref02_SameCode.l0 k l0 l1 0) else (some false)
theorem interlockref02_SameCode.mono_l : ∀ k, (∀ y0 y1 y2, LeO (interlockref02_SameCode.l0 k y0 y1 y2) (interlockref02_SameCode.l0 (k + 1) y0 y1 y2))
  | 0 => fun _ _ _ r h => by simp [interlockref02_SameCode.l0] at h
  | k + 1 => by
    have ih0 := interlockref02_SameCode.mono_l k
    · intro y0 y1 y2
      unfold interlockref02_SameCode.l0
      repeat' first
      | (with_reducible exact ih0 _ _ _)
      | (with_reducible exact LeO.refl _)
      | (with_reducible exact LeO.none _)
      | (with_reducible refine LeO.ite ?_ ?_)
      | (with_reducible refine LeO.bind ?_ (fun _ => ?_))
      | exact ih0 _ _ _
      | exact LeO.none _
      | refine LeO.ite ?_ ?_
      | refine LeO.bind ?_ (fun _ => ?_)
theorem interlockref02_SameCode.mono : ∀ a0 a1 k, LeO (interlockref02_SameCode.f k a0 a1) (interlockref02_SameCode.f (k + 1) a0 a1) := by
  intro a0 a1 k
  have ih0 := interlockref02_SameCode.mono_l k
  unfold interlockref02_SameCode.f
  repeat' first
      | (with_reducible exact ih0 _ _ _)
      | (with_reducible exact LeO.refl _)
      | (with_reducible exact LeO.none _)
      | (with_reducible refine LeO.ite ?_ ?_)
      | (with_reducible refine LeO.bind ?_ (fun _ => ?_))
      | exact ih0 _ _ _
      | exact LeO.none _
      | refine LeO.ite ?_ ?_
      | refine LeO.bind ?_ (fun _ => ?_)
set_option maxHeartbeats 8000000 in
set_option maxRecDepth 100000 in
theorem interlockref02_SameCode.calls (k : Nat) (A0 : Option Addr) (c0 : Nat) (l0 : List (S33)) (A1 : Option Addr) (c1 : Nat) (l1 : List (S33)) (r : Bool) (w : World) (hr0 : Kd.C k33 w A0 l0.length l0) (hc0 : l0.length ≤ c0) (hr1 : Kd.C k33 w A1 l1.length l1) (hc1 : l1.length ≤ c1) (h : interlockref02_SameCode.f k l0 l1 = some r) :
    Calls Try.prog 13 #[.slice A0 l0.length c0, .slice A1 l1.length c1] w fun e w' => e = .returned (.bool r) ∧ Drawn0 w w' := by
  have hu33 := Try.underlying33
  have HR0 := Aside0.mk hr0
  have HC0 := Aside0.mk hc0
  clear hr0 hc0
  have HR1 := Aside0.mk hr1
  have HC1 := Aside0.mk hc1
  clear hr1 hc1
  have H : (if (l0.length : Int) = (l1.length : Int) then (interlockref02_SameCode.l0 k l0 l1 0) else (some false)) = some r := h
  clear h
  by_cases c3 : (l0.length : Int) = (l1.length : Int)
  · rw [if_pos c3] at H
    have c3b0 : ((l0.length : Int) == (l1.length : Int)) = true := beq_iff_eq.mpr c3
    have c3b1 : ((l0.length : Int) != (l1.length : Int)) = false := bne_eq_false_iff_eq.mpr c3
    have c3b2 : (l0.length == l1.length) = true := by first | simpa using c3 | (simp at c3 ⊢; omega)
    clear c3
    have H' := Aside0.mk H
    clear H
    go_enter Try.func13, Try.ntmps13
    go_wp2
    repeat (go_quiet (fail); try go_wp2)
    go_loopg [5] k (fun kq v5 w' => ∃ (x5_1 : Int), v5 = .int .i64 x5_1 ∧ Aside0 (interlockref02_SameCode.l0 kq l0 l1 x5_1 = some r) ∧ Aside0 (kq ≤ k) ∧ Drawn0 w w')
    case atStart => exact ⟨(0), (by first | rfl | (simp; done) | (simp [*]; done)), H', ⟨Nat.le_refl _⟩, by repeat (first | exact Drawn0.refl _ | apply Drawn0.step)⟩
    case round =>
      clear H'
      try clear c1
      try clear p2
      try clear c3
      try clear c3b0
      try clear c3b1
      try clear c3b2
      obtain ⟨x5_1, rfl, HA, HK1, ⟨m1, rfl⟩⟩ := hrel
      cases gk with
      | zero => exact absurd HA.out (by simp [interlockref02_SameCode.l0])
      | succ k1 =>
        have H := HA.out
        clear HA
        simp only [interlockref02_SameCode.l0] at H
        by_cases c4 : x5_1 < (l0.length : Int)
        · rw [if_pos c4] at H
          have c4b0 : decide (x5_1 < (l0.length : Int)) = true := decide_eq_true c4
          clear c4
          by_cases c5 : 0 ≤ x5_1
          · rw [if_pos c5] at H
            have c5b0 : decide (0 ≤ x5_1) = true := decide_eq_true c5
            clear c5
            by_cases c6 : x5_1 < (l1.length : Int)
            · rw [if_pos c6] at H
              have c6b0 : decide (x5_1 < (l1.length : Int)) = true := decide_eq_true c6
              clear c6
              by_cases c7 : (!(((rd_T33 l0 x5_1).f0) == ((rd_T33 l1 x5_1).f0)) || (!(((rd_T33 l0 x5_1).f1) == ((rd_T33 l1 x5_1).f1)) || (!(((rd_T33 l0 x5_1).f2) == ((rd_T33 l1 x5_1).f2)) || (!(((rd_T33 l0 x5_1).f3) == ((rd_T33 l1 x5_1).f3)))))) = true
              · rw [if_pos c7] at H
                have c7b0 : (!(((rd_T33 l0 x5_1).f0) == ((rd_T33 l1 x5_1).f0)) || (!(((rd_T33 l0 x5_1).f1) == ((rd_T33 l1 x5_1).f1)) || (!(((rd_T33 l0 x5_1).f2) == ((rd_T33 l1 x5_1).f2)) || (!(((rd_T33 l0 x5_1).f3) == ((rd_T33 l1 x5_1).f3)))))) = true := c7
                clear c7
                obtain rfl := Option.some.inj H
                have p303 : 0 ≤ (x5_1 : Int) := of_decide_eq_true (by first | (with_reducible assumption) | assumption)
                have q303 : x5_1 < (l0.length : Int) := of_decide_eq_true (by first | (with_reducible assumption) | assumption)
                obtain ⟨ad303, e303, hx303_0, hx303_1, hx303_2, hx303_3⟩ := at_T33 HR0.out x5_1 p303 q303
                cases e303
                replace p303 := eq_true p303
                replace q303 := eq_true q303
                have p304 : 0 ≤ (x5_1 : Int) := of_decide_eq_true (by first | (with_reducible assumption) | assumption)
                have q304 : x5_1 < (l1.length : Int) := of_decide_eq_true (by first | (with_reducible assumption) | assumption)
                obtain ⟨ad304, e304, hx304_0, hx304_1, hx304_2, hx304_3⟩ := at_T33 HR1.out x5_1 p304 q304
                cases e304
                replace p304 := eq_true p304
                replace q304 := eq_true q304
                go_wp2
                repeat (go_quiet (fail); try go_wp2)
                go_ret
                exact ⟨by first | rfl | (simp; done) | (simp [*]; done), by repeat (first | exact Drawn0.refl _ | apply Drawn0.step)⟩
              · rw [if_neg c7] at H
                have c7b0 : (!(((rd_T33 l0 x5_1).f0) == ((rd_T33 l1 x5_1).f0)) || (!(((rd_T33 l0 x5_1).f1) == ((rd_T33 l1 x5_1).f1)) || (!(((rd_T33 l0 x5_1).f2) == ((rd_T33 l1 x5_1).f2)) || (!(((rd_T33 l0 x5_1).f3) == ((rd_T33 l1 x5_1).f3)))))) = false := by simpa using c7
                clear c7
                have H' := Aside0.mk H
                clear H
                have p303 : 0 ≤ (x5_1 : Int) := of_decide_eq_true (by first | (with_reducible assumption) | assumption)
                have q303 : x5_1 < (l0.length : Int) := of_decide_eq_true (by first | (with_reducible assumption) | assumption)
                obtain ⟨ad303, e303, hx303_0, hx303_1, hx303_2, hx303_3⟩ := at_T33 HR0.out x5_1 p303 q303
                cases e303
                replace p303 := eq_true p303
                replace q303 := eq_true q303
                have p304 : 0 ≤ (x5_1 : Int) := of_decide_eq_true (by first | (with_reducible assumption) | assumption)
                have q304 : x5_1 < (l1.length : Int) := of_decide_eq_true (by first | (with_reducible assumption) | assumption)
                obtain ⟨ad304, e304, hx304_0, hx304_1, hx304_2, hx304_3⟩ := at_T33 HR1.out x5_1 p304 q304
                cases e304
                replace p304 := eq_true p304
                replace q304 := eq_true q304
                go_wp2
                repeat (go_quiet (fail); try go_wp2)
                go_roundg k1
                case measure => have := HK1.out; omega
                case rel => exact ⟨(wrap64 (x5_1 + 1)), (by first | rfl | (simp; done) | (simp [*]; done)), H', ⟨by have := HK1.out; omega⟩, by repeat (first | exact Drawn0.refl _ | apply Drawn0.step)⟩
            · rw [if_neg c6] at H
              exact absurd H (by simp)
          · rw [if_neg c5] at H
            exact absurd H (by simp)
        · rw [if_neg c4] at H
          have c4b0 : decide (x5_1 < (l0.length : Int)) = false := decide_eq_false c4
          clear c4
          obtain rfl := Option.some.inj H
          go_wp2
          repeat (go_quiet (fail); try go_wp2)
          go_ret
          exact ⟨by first | rfl | (simp; done) | (simp [*]; done), by repeat (first | exact Drawn0.refl _ | apply Drawn0.step)⟩
  · rw [if_neg c3] at H
    have c3b0 : ((l0.length : Int) == (l1.length : Int)) = false := beq_eq_false_iff_ne.mpr c3
    have c3b1 : ((l0.length : Int) != (l1.length : Int)) = true := bne_iff_ne.mpr c3
    have c3b2 : (l0.length == l1.length) = false := by first | simpa using c3 | (simp at c3 ⊢; omega)
    obtain rfl := Option.some.inj H
    go_enter Try.func13, Try.ntmps13
    go_wp2
    repeat (go_quiet (fail); try go_wp2)
    go_ret
    exact ⟨by first | rfl | (simp; done) | (simp [*]; done), by repeat (first | exact Drawn0.refl _ | apply Drawn0.step)⟩

/-! ### interlocklaw19_SwapDone: function 3 -/
def interlocklaw19_SwapDone.l0 : Nat → List S33 → List S33 → List S33 → Nat → Option Bool
  | 0, _, _, _, _ => none
  | k + 1, c, ec, fc, i => if ec.length ≤ 1000000 then (if i + 1 < ec.length then
      ((interlockref11_Head.f k c (i : Int)).bind fun t1 => (interlockref11_Head.f k c ((i + 1 : Nat) : Int)).bind fun t2 =>
        if t1 = t2 then
          (if (ec.getD (i + 1) z33).f0 = 7 then
            (if (ec.getD i z33).f0 = 7 then interlocklaw19_SwapDone.l0 k c ec fc (i + 1)
             else (interlockref19_Apart.f k (ec.getD i z33).f0 (ec.getD i z33).f1 (ec.getD i z33).f2 (ec.getD i z33).f3 (ec.getD (i + 1) z33).f0 (ec.getD (i + 1) z33).f1 (ec.getD (i + 1) z33).f2 (ec.getD (i + 1) z33).f3).bind fun t => if t = true then none else interlocklaw19_SwapDone.l0 k c ec fc (i + 1))
           else interlocklaw19_SwapDone.l0 k c ec fc (i + 1))
        else interlocklaw19_SwapDone.l0 k c ec fc (i + 1))
    else (interlocklaw19_known.f k).bind fun t => if t = true then interlockref02_SameCode.f k ec fc else none) else none
def interlocklaw19_SwapDone.f (k : Nat) (l0 : List (List Int)) (a1 : Int) : Option (Bool) := (interlocklaw02_Make.f k l0).bind fun bt305 => (if (bt305.2.2.2.2.2.2.length : Int) = 0 then (none) else (if 0 ≤ (Int.tmod (wrap64 (a1)) (bt305.2.2.2.2.2.2.length : Int)) then (if (Int.tmod (wrap64 (a1)) (bt305.2.2.2.2.2.2.length : Int)) < (bt305.2.2.2.2.2.2.length : Int) then ((swap_Code.f k (rd_L4 bt305.2.2.2.2.2.2 (Int.tmod (wrap64 (a1)) (bt305.2.2.2.2.2.2.length : Int)))).bind fun bt318 => ((swap_Code.f k bt318.1).bind fun bt325 => (interlocklaw19_SwapDone.l0 k (rd_L4 bt305.2.2.2.2.2.2 (Int.tmod (wrap64 (a1)) (bt305.2.2.2.2.2.2.length : Int))) bt318.1 bt325.1 0))) else (none)) else (none)))
theorem interlocklaw19_SwapDone.mono_l : ∀ k c ec fc i, LeO (interlocklaw19_SwapDone.l0 k c ec fc i) (interlocklaw19_SwapDone.l0 (k + 1) c ec fc i)
  | 0 => fun _ _ _ _ r h => by simp [interlocklaw19_SwapDone.l0] at h
  | k + 1 => by
    have ih := interlocklaw19_SwapDone.mono_l k
    intro c ec fc i
    unfold interlocklaw19_SwapDone.l0
    repeat' first
      | exact ih _ _ _ _
      | exact interlocklaw19_known.mono _
      | exact interlockref02_SameCode.mono _ _ _
      | exact interlockref11_Head.mono _ _ _
      | exact interlockref19_Apart.mono _ _ _ _ _ _ _ _ _
      | exact LeO.none _
      | refine LeO.ite ?_ ?_
      | refine LeO.bind ?_ (fun _ => ?_)
theorem interlocklaw19_SwapDone.mono : ∀ a0 a1 k, LeO (interlocklaw19_SwapDone.f k a0 a1) (interlocklaw19_SwapDone.f (k + 1) a0 a1) := by
  intro a0 a1 k
  unfold interlocklaw19_SwapDone.f
  repeat' first
      | exact interlocklaw19_SwapDone.mono_l k _ _ _ _
      | exact interlocklaw02_Make.mono _ _
      | exact swap_Code.mono _ _
      | exact LeO.none _
      | refine LeO.ite ?_ ?_
      | refine LeO.bind ?_ (fun _ => ?_)
set_option maxHeartbeats 8000000 in
set_option maxRecDepth 100000 in
theorem interlocklaw19_SwapDone.calls (k : Nat) (A0 : Option Addr) (c0 : Nat) (l0 : List (List Int)) (a1 : Int) (r : Bool) (w : World) (hr0 : Kd.C (Kd.slice 5 (Kd.int .u8)) w A0 l0.length l0) (hc0 : l0.length ≤ c0) (h : interlocklaw19_SwapDone.f k l0 a1 = some r) :
    Calls Try.prog 3 #[.slice A0 l0.length c0, .int .u8 a1] w fun e w' => e = .returned (.bool r) ∧ Below w.heap.size w w' := by
 have hu26 := Try.underlying26
 have hu30 := Try.underlying30
 have hu33 := Try.underlying33
 have HR0 := Aside0.mk hr0
 have HC0 := Aside0.mk hc0
 clear hr0 hc0
 have HB := Aside0.mk (Below.refl w.heap.size w)
 have H : ((interlocklaw02_Make.f k l0).bind fun bt305 => (if (bt305.2.2.2.2.2.2.length : Int) = 0 then (none) else (if 0 ≤ (Int.tmod (wrap64 (a1)) (bt305.2.2.2.2.2.2.length : Int)) then (if (Int.tmod (wrap64 (a1)) (bt305.2.2.2.2.2.2.length : Int)) < (bt305.2.2.2.2.2.2.length : Int) then ((swap_Code.f k (rd_L4 bt305.2.2.2.2.2.2 (Int.tmod (wrap64 (a1)) (bt305.2.2.2.2.2.2.length : Int)))).bind fun bt318 => ((swap_Code.f k bt318.1).bind fun bt325 => (interlocklaw19_SwapDone.l0 k (rd_L4 bt305.2.2.2.2.2.2 (Int.tmod (wrap64 (a1)) (bt305.2.2.2.2.2.2.length : Int))) bt318.1 bt325.1 0))) else (none)) else (none)))) = some r := h
 clear h
 replace H := Option.bind_eq_some_iff.mp H
 obtain ⟨⟨t305, t306, t307, t308, t311, t312, t313⟩, A30, H⟩ := H
 replace H : (if (t313.length : Int) = 0 then (none) else (if 0 ≤ (Int.tmod (wrap64 (a1)) (t313.length : Int)) then (if (Int.tmod (wrap64 (a1)) (t313.length : Int)) < (t313.length : Int) then ((swap_Code.f k (rd_L4 t313 (Int.tmod (wrap64 (a1)) (t313.length : Int)))).bind fun bt318 => ((swap_Code.f k bt318.1).bind fun bt325 => (interlocklaw19_SwapDone.l0 k (rd_L4 t313 (Int.tmod (wrap64 (a1)) (t313.length : Int))) bt318.1 bt325.1 0))) else (none)) else (none))) = some r := H
 have A3 := Aside0.mk A30
 clear A30
 by_cases c4 : (t313.length : Int) = 0
 {
 rw [if_pos c4] at H
 exact absurd H (by simp)
 }
 {
 rw [if_neg c4] at H
 have c4b0 : ((t313.length : Int) == 0) = false := beq_eq_false_iff_ne.mpr c4
 have c4b1 : ((t313.length : Int) != 0) = true := bne_iff_ne.mpr c4
 have c4b2 : ¬ (t313 = []) := fun h_ => c4 (by rw [h_]; rfl)
 obtain ⟨ji5, hji5⟩ : ∃ j_ : Int, (Int.tmod (wrap64 (a1)) (t313.length : Int)) = j_ := ⟨_, rfl⟩
 replace H : (if 0 ≤ (ji5) then (if (ji5) < (t313.length : Int) then ((swap_Code.f k (rd_L4 t313 (ji5))).bind fun bt318 => ((swap_Code.f k bt318.1).bind fun bt325 => (interlocklaw19_SwapDone.l0 k (rd_L4 t313 (ji5)) bt318.1 bt325.1 0))) else (none)) else (none)) = some r := by first | (rw [hji5] at H; exact H) | (simp only [hji5] at H ⊢; exact H)
 (try rw [hji5] at A3)
 have hji5q : Int.tmod (IntKind.i64.wrap (a1)) (t313.length : Int) = ji5 := by first | (rw [i64_w]; exact hji5) | (simp only [i64_w]; exact hji5)
 by_cases c6 : 0 ≤ (ji5)
 {
 rw [if_pos c6] at H
 have c6b0 : decide (0 ≤ (ji5)) = true := decide_eq_true c6
 clear c6
 by_cases c7 : (ji5) < (t313.length : Int)
 {
 rw [if_pos c7] at H
 have c7b0 : decide ((ji5) < (t313.length : Int)) = true := decide_eq_true c7
 clear c7
 replace H := Option.bind_eq_some_iff.mp H
 obtain ⟨⟨t318, t321⟩, A80, H⟩ := H
 replace H : ((swap_Code.f k t318).bind fun bt325 => (interlocklaw19_SwapDone.l0 k (rd_L4 t313 (ji5)) t318 bt325.1 0)) = some r := H
 have A8 := Aside0.mk A80
 clear A80
 replace H := Option.bind_eq_some_iff.mp H
 obtain ⟨⟨t325, t328⟩, A90, H⟩ := H
 replace H : (interlocklaw19_SwapDone.l0 k (rd_L4 t313 (ji5)) t318 t325 0) = some r := H
 have A9 := Aside0.mk A90
 clear A90
 have H' := Aside0.mk H
 clear H
 go_enter Try.func3, Try.ntmps3
 iterate 2 ((try go_quiet (fail)); go_wp2_with (first | (go_at_call 8; (with_reducible refine (interlocklaw02_Make.calls k _ _ l0 t305 t306 t307 t308 t311 t312 t313 _ ?side1 ?side2 A3.out).mono ?_); (case side1 => repeat (first | exact HR0.out | (with_reducible refine Kd.C_alloc ?_ _) | (with_reducible refine Kd.C_drewN ?_ _) | (with_reducible refine Kd.C_drew ?_))); (case side2 => exact HC0.out); rintro e w10 ⟨v309, v314, rfl, ho0, ho1, hb⟩; have n0_ := Aside0.mk (Kd.R_lower ho0 (below_size (by repeat (first | (with_reducible first | exact HB.out | apply below_alloc | apply pw_below_drewN | apply below_drew1) | exact HB.out)))); have n1_ := Aside0.mk (Kd.S_lower ho1 (below_size (by repeat (first | (with_reducible first | exact HB.out | apply below_alloc | apply pw_below_drewN | apply below_drew1) | exact HB.out)))); have n2_ := Aside0.mk (below_step (by repeat (first | (with_reducible first | exact HB.out | apply below_alloc | apply pw_below_drewN | apply below_drew1) | exact HB.out)) hb); clear HB; have HO310 := n0_; have HO315 := n1_; have HB := n2_; clear n0_ n1_ n2_; (try clear hb); (try clear hb2); (try clear hk); (try clear hi); (try clear ho0); (try clear ho1)) | ((with_reducible refine gate_dst (N := 5) rfl ?_); refine box_event ?hg (N := 5) ?hd (cs := #[.int .i64 0, .int .i64 0, .int .i64 0, .slice none 0 0, .int .i64 0, .int .i64 0, .slice none 0 0]) (t := 26) ?hr ?_; (case hd => rfl); (case hg => rfl); (case hr => first | (go_simp; done) | (go_simp; rfl)); intro gb316 hg w11 hbox hb; have n0_ := Aside0.mk (Kd.R_below (by (with_reducible repeat (first | apply Kd.R_alloc | apply Kd.R_drewN | apply Kd.R_drew)); exact HO310.out) hb); have n1_ := Aside0.mk (Kd.S_below (by (with_reducible repeat (first | apply Kd.S_alloc | apply Kd.S_drewN | apply Kd.S_drew)); exact HO315.out) hb); have n2_ := Aside0.mk (below_step (by repeat (first | (with_reducible first | exact HB.out | apply below_alloc | apply pw_below_drewN | apply below_drew1) | exact HB.out)) hb); have n3_ := Aside0.mk (hbox); have n4_ := Aside0.mk ((by rw [hg]; exact (below_size (by repeat (first | (with_reducible first | exact HB.out | apply below_alloc | apply pw_below_drewN | apply below_drew1) | exact HB.out))) : w.heap.size ≤ gb316)); have n5_ := Aside0.mk ((by rw [hg]; exact (below_size (by repeat (first | (with_reducible first | exact HB.out | apply below_alloc | apply pw_below_drewN | apply below_drew1) | exact HB.out))) : w.heap.size ≤ gb316)); clear HO310; clear HO315; clear HB; have HO310 := n0_; have HO315 := n1_; have HB := n2_; have BK316 := n3_; have GW316 := n4_; have GE316 := n5_; clear n0_ n1_ n2_ n3_ n4_ n5_; clear hb hbox hg; have hcz12_0 : w11.cell? ⟨gb316, 0, none⟩ = some (.int .i64 0) := (blk_cell BK316.out 0).trans rfl; have hcz12_1 : w11.cell? ⟨gb316, 1, none⟩ = some (.int .i64 0) := (blk_cell BK316.out 1).trans rfl; have hcz12_2 : w11.cell? ⟨gb316, 2, none⟩ = some (.int .i64 0) := (blk_cell BK316.out 2).trans rfl; have hcz12_3 : w11.cell? ⟨gb316, 3, none⟩ = some (.slice none 0 0) := (blk_cell BK316.out 3).trans rfl; have hcz12_4 : w11.cell? ⟨gb316, 4, none⟩ = some (.int .i64 0) := (blk_cell BK316.out 4).trans rfl; have hcz12_5 : w11.cell? ⟨gb316, 5, none⟩ = some (.int .i64 0) := (blk_cell BK316.out 5).trans rfl; have hcz12_6 : w11.cell? ⟨gb316, 6, none⟩ = some (.slice none 0 0) := (blk_cell BK316.out 6).trans rfl; have hfz12_0 := blk_frozen BK316.out 0; have hfz12_1 := blk_frozen BK316.out 1; have hfz12_2 := blk_frozen BK316.out 2; have hfz12_3 := blk_frozen BK316.out 3; have hfz12_4 := blk_frozen BK316.out 4; have hfz12_5 := blk_frozen BK316.out 5; have hfz12_6 := blk_frozen BK316.out 6; obtain ⟨Ao13, co13, eo13⟩ := Kd.R_slice HO310.out; subst eo13; obtain ⟨Ao14, co14, eo14⟩ := Kd.S_slice HO315.out; subst eo14) | ((with_reducible refine gate_store (t := 26) (p := 5) rfl ?_); (try (rw [drewN_self w11]; generalize hq_ : World.drewN w11 _ = w11; have n0_ := Aside0.mk (Kd.R_at hq_ HO310.out); have n1_ := Aside0.mk (Kd.S_at hq_ HO315.out); have n2_ := Aside0.mk (blk_at hq_ BK316.out); have n3_ := Aside0.mk (below_at hq_ HB.out); clear hq_ HO310 HO315 BK316 HB; have HO310 := n0_; have HO315 := n1_; have BK316 := n2_; have HB := n3_; clear n0_ n1_ n2_ n3_)); refine store_event (t := 26) (p := 5) (v := ?vo_w15) (w1 := (((((((w11.setCell ⟨gb316, 0, none⟩ (.int .i64 t305)).setCell ⟨gb316, 1, none⟩ (.int .i64 t306)).setCell ⟨gb316, 2, none⟩ (.int .i64 t307)).setCell ⟨gb316, 3, none⟩ (.slice Ao13 t308.length co13)).setCell ⟨gb316, 4, none⟩ (.int .i64 t311)).setCell ⟨gb316, 5, none⟩ (.int .i64 t312)).setCell ⟨gb316, 6, none⟩ (.slice Ao14 t313.length co14))) ?hg ?ho ?hn ?hr ?_; (case ho => rfl); (case hg => rfl); (case hn => rfl); (case hr => first | (go_simp; done) | (go_simp; rfl)); intro w15 hw; have n0_ : Aside0 (Kd.R (Kd.int .i64) 3 w15 w.heap.size (fun _ => True) (.slice Ao13 t308.length co13) t308) := ⟨(by rw [hw]; exact (by (with_reducible repeat (first | apply Kd.R_alloc | apply Kd.R_drewN | apply Kd.R_drew)); exact Kd.R_mono (Kd.R_far (p := ⟨gb316, 6, none⟩) (Kd.R_far (p := ⟨gb316, 5, none⟩) (Kd.R_far (p := ⟨gb316, 4, none⟩) (Kd.R_far (p := ⟨gb316, 3, none⟩) (Kd.R_far (p := ⟨gb316, 2, none⟩) (Kd.R_far (p := ⟨gb316, 1, none⟩) (Kd.R_far (p := ⟨gb316, 0, none⟩) (Kd.R_types HO310.out BK316.out (by decide)) (fun _ hk => hk.2) (.int .i64 t305)) (fun _ hk => hk.2) (.int .i64 t306)) (fun _ hk => hk.2) (.int .i64 t307)) (fun _ hk => hk.2) (.slice Ao13 t308.length co13)) (fun _ hk => hk.2) (.int .i64 t311)) (fun _ hk => hk.2) (.int .i64 t312)) (fun _ hk => hk.2) (.slice Ao14 t313.length co14)) (fun _ hk => trivial)))⟩; have n1_ : Aside0 (Kd.S (Kd.slice 33 k33) 28 w15 w.heap.size (fun _ => True) (.slice Ao14 t313.length co14) t313) := ⟨(by rw [hw]; exact (by (with_reducible repeat (first | apply Kd.S_alloc | apply Kd.S_drewN | apply Kd.S_drew)); exact Kd.S_mono (Kd.S_far (p := ⟨gb316, 6, none⟩) (Kd.S_far (p := ⟨gb316, 5, none⟩) (Kd.S_far (p := ⟨gb316, 4, none⟩) (Kd.S_far (p := ⟨gb316, 3, none⟩) (Kd.S_far (p := ⟨gb316, 2, none⟩) (Kd.S_far (p := ⟨gb316, 1, none⟩) (Kd.S_far (p := ⟨gb316, 0, none⟩) (Kd.S_types HO315.out BK316.out (by decide)) (fun _ hk => hk.2) (.int .i64 t305)) (fun _ hk => hk.2) (.int .i64 t306)) (fun _ hk => hk.2) (.int .i64 t307)) (fun _ hk => hk.2) (.slice Ao13 t308.length co13)) (fun _ hk => hk.2) (.int .i64 t311)) (fun _ hk => hk.2) (.int .i64 t312)) (fun _ hk => hk.2) (.slice Ao14 t313.length co14)) (fun _ hk => trivial)))⟩; have n2_ : Aside0 (w15.heap[gb316]? = some (.cells #[.int .i64 t305, .int .i64 t306, .int .i64 t307, .slice Ao13 t308.length co13, .int .i64 t311, .int .i64 t312, .slice Ao14 t313.length co14] 26 (0, 0))) := ⟨(by rw [hw]; exact (by (with_reducible repeat (first | refine blk_drewN ?_ _ | refine blk_drew ?_ | refine blk_alloc ?_ _)); refine blk_put (cs := #[.int .i64 t305, .int .i64 t306, .int .i64 t307, .slice Ao13 t308.length co13, .int .i64 t311, .int .i64 t312, .slice none 0 0]) ?_ 6 _ rfl; (with_reducible repeat (first | refine blk_drewN ?_ _ | refine blk_drew ?_ | refine blk_alloc ?_ _)); refine blk_put (cs := #[.int .i64 t305, .int .i64 t306, .int .i64 t307, .slice Ao13 t308.length co13, .int .i64 t311, .int .i64 0, .slice none 0 0]) ?_ 5 _ rfl; (with_reducible repeat (first | refine blk_drewN ?_ _ | refine blk_drew ?_ | refine blk_alloc ?_ _)); refine blk_put (cs := #[.int .i64 t305, .int .i64 t306, .int .i64 t307, .slice Ao13 t308.length co13, .int .i64 0, .int .i64 0, .slice none 0 0]) ?_ 4 _ rfl; (with_reducible repeat (first | refine blk_drewN ?_ _ | refine blk_drew ?_ | refine blk_alloc ?_ _)); refine blk_put (cs := #[.int .i64 t305, .int .i64 t306, .int .i64 t307, .slice none 0 0, .int .i64 0, .int .i64 0, .slice none 0 0]) ?_ 3 _ rfl; (with_reducible repeat (first | refine blk_drewN ?_ _ | refine blk_drew ?_ | refine blk_alloc ?_ _)); refine blk_put (cs := #[.int .i64 t305, .int .i64 t306, .int .i64 0, .slice none 0 0, .int .i64 0, .int .i64 0, .slice none 0 0]) ?_ 2 _ rfl; (with_reducible repeat (first | refine blk_drewN ?_ _ | refine blk_drew ?_ | refine blk_alloc ?_ _)); refine blk_put (cs := #[.int .i64 t305, .int .i64 0, .int .i64 0, .slice none 0 0, .int .i64 0, .int .i64 0, .slice none 0 0]) ?_ 1 _ rfl; (with_reducible repeat (first | refine blk_drewN ?_ _ | refine blk_drew ?_ | refine blk_alloc ?_ _)); refine blk_put (cs := #[.int .i64 0, .int .i64 0, .int .i64 0, .slice none 0 0, .int .i64 0, .int .i64 0, .slice none 0 0]) ?_ 0 _ rfl; (with_reducible repeat (first | refine blk_drewN ?_ _ | refine blk_drew ?_ | refine blk_alloc ?_ _)); exact BK316.out))⟩; have n3_ : Aside0 (Below w.heap.size w w15) := ⟨(by rw [hw]; exact (by repeat (first | (with_reducible first | exact HB.out | apply below_alloc | apply pw_below_drewN | apply below_drew1 | refine below_set ?_ GE316.out) | exact HB.out)))⟩; clear hw; clear HO310; clear HO315; clear BK316; clear HB; have HO310 := n0_; have HO315 := n1_; have BK316 := n2_; have HB := n3_; clear n0_ n1_ n2_ n3_; have hcz16_0 : w15.cell? ⟨gb316, 0, none⟩ = some (.int .i64 t305) := (blk_cell BK316.out 0).trans rfl; have hcz16_1 : w15.cell? ⟨gb316, 1, none⟩ = some (.int .i64 t306) := (blk_cell BK316.out 1).trans rfl; have hcz16_2 : w15.cell? ⟨gb316, 2, none⟩ = some (.int .i64 t307) := (blk_cell BK316.out 2).trans rfl; have hcz16_3 : w15.cell? ⟨gb316, 3, none⟩ = some (.slice Ao13 t308.length co13) := (blk_cell BK316.out 3).trans rfl; have hcz16_4 : w15.cell? ⟨gb316, 4, none⟩ = some (.int .i64 t311) := (blk_cell BK316.out 4).trans rfl; have hcz16_5 : w15.cell? ⟨gb316, 5, none⟩ = some (.int .i64 t312) := (blk_cell BK316.out 5).trans rfl; have hcz16_6 : w15.cell? ⟨gb316, 6, none⟩ = some (.slice Ao14 t313.length co14) := (blk_cell BK316.out 6).trans rfl; have hfz16_0 := blk_frozen BK316.out 0; have hfz16_1 := blk_frozen BK316.out 1; have hfz16_2 := blk_frozen BK316.out 2; have hfz16_3 := blk_frozen BK316.out 3; have hfz16_4 := blk_frozen BK316.out 4; have hfz16_5 := blk_frozen BK316.out 5; have hfz16_6 := blk_frozen BK316.out 6; have p317 : 0 ≤ ((ji5) : Int) := of_decide_eq_true (by first | (with_reducible assumption) | assumption); have q317 : (ji5) < (t313.length : Int) := of_decide_eq_true (by first | (with_reducible assumption) | assumption); obtain ⟨ad317, A317_0, c317_0, e317, hx317_0, hl317_0, hi317_0⟩ := at_L4 (Kd.S_reads' HO315.out).2.2 (ji5) p317 q317; cases e317; obtain ⟨ce317, hce317, hMe317, hcc317⟩ := Kd.S_get HO315.out [] (ji5) p317 (by first | exact q317 | exact of_decide_eq_true (by first | (with_reducible assumption) | assumption) | (have e_ := (Kd.S_reads' HO315.out).1; omega)); obtain ⟨ve317_0, rfl, ge317_0⟩ := hMe317; have hv317_0 := hcc317 0 _ rfl; rw [Nat.add_zero, show ((Kd.slice 33 k33)).sz = 1 from rfl, Nat.mul_one] at hv317_0; replace hv317_0 := Option.some.inj (hv317_0.symm.trans hx317_0); rw [hv317_0] at ge317_0; have HL317_0 := Aside0.mk (show Kd.R k33 33 _ _ _ _ (rd_L4 t313 (ji5)) from ge317_0); clear hv317_0 ge317_0; clear hcc317 hce317; have HR317_0 := Aside0.mk hi317_0; have HC317_0 := Aside0.mk hl317_0; clear hi317_0 hl317_0; replace p317 := eq_true p317; replace q317 := eq_true q317) | (go_at_call 9; (with_reducible refine (swap_Code.calls k _ _ (rd_L4 t313 (ji5)) t318 t321 _ ?side1 ?side2 A8.out).mono ?_); (case side1 => repeat (first | exact (by repeat (first | (with_reducible exact HR317_0.out) | (with_reducible refine Kd.C_alloc ?_ _) | (with_reducible refine Kd.C_drewN ?_ _) | (with_reducible refine Kd.C_drew ?_) | exact HR317_0.out)) | (with_reducible refine Kd.C_alloc ?_ _) | (with_reducible refine Kd.C_drewN ?_ _) | (with_reducible refine Kd.C_drew ?_))); (case side2 => exact HC317_0.out); rintro e w17 ⟨v319, v322, rfl, ho0, ho1, hb⟩; have n0_ := Aside0.mk (Kd.R_elder' (by (with_reducible repeat (first | apply Kd.R_alloc | apply Kd.R_drewN | apply Kd.R_drew)); exact HO310.out) (Kd.R_base ho1) hb); have n1_ := Aside0.mk (Kd.S_elder' (by (with_reducible repeat (first | apply Kd.S_alloc | apply Kd.S_drewN | apply Kd.S_drew)); exact HO315.out) (Kd.R_base ho0) hb); have n2_ := Aside0.mk (Kd.R_elder' (by (with_reducible repeat (first | apply Kd.R_alloc | apply Kd.R_drewN | apply Kd.R_drew)); exact HL317_0.out) (Kd.R_base ho0) hb); have n3_ := Aside0.mk (Kd.R_lower (Kd.R_new' ho0 (Kd.R_lt (by (with_reducible repeat (first | apply Kd.R_alloc | apply Kd.R_drewN | apply Kd.R_drew)); exact HL317_0.out))) (below_size (by repeat (first | (with_reducible first | exact HB.out | apply below_alloc | apply pw_below_drewN | apply below_drew1 | refine below_set ?_ GE316.out) | exact HB.out)))); have n4_ := Aside0.mk (Kd.R_lower (Kd.R_new' ho1 (Kd.R_lt (by (with_reducible repeat (first | apply Kd.R_alloc | apply Kd.R_drewN | apply Kd.R_drew)); exact HO310.out))) (below_size (by repeat (first | (with_reducible first | exact HB.out | apply below_alloc | apply pw_below_drewN | apply below_drew1 | refine below_set ?_ GE316.out) | exact HB.out)))); have n5_ := Aside0.mk (blk_below (g := gb316) (o := .cells #[.int .i64 t305, .int .i64 t306, .int .i64 t307, .slice Ao13 t308.length co13, .int .i64 t311, .int .i64 t312, .slice (some ad317) t313.length co14] 26 (0, 0)) (by (with_reducible repeat (first | refine blk_drewN ?_ _ | refine blk_drew ?_ | refine blk_alloc ?_ _)); exact BK316.out) hb); have n6_ := Aside0.mk (Kd.C_below (by repeat (first | (with_reducible exact HR317_0.out) | (with_reducible refine Kd.C_alloc ?_ _) | (with_reducible refine Kd.C_drewN ?_ _) | (with_reducible refine Kd.C_drew ?_) | exact HR317_0.out)) hb); have n7_ := Aside0.mk (below_step (by repeat (first | (with_reducible first | exact HB.out | apply below_alloc | apply pw_below_drewN | apply below_drew1 | refine below_set ?_ GE316.out) | exact HB.out)) hb); clear HO310; clear HO315; clear HL317_0; clear BK316; clear HR317_0; clear HB; have HO310 := n0_; have HO315 := n1_; have HL317_0 := n2_; have HO320 := n3_; have HO323 := n4_; have BK316 := n5_; have HR317_0 := n6_; have HB := n7_; clear n0_ n1_ n2_ n3_ n4_ n5_ n6_ n7_; (try clear hb); (try clear hb2); (try clear hk); (try clear hi); (try clear ho0); (try clear ho1)) | ((with_reducible refine gate_dst (N := 7) rfl ?_); refine box_event ?hg (N := 7) ?hd (cs := #[.slice none 0 0, .slice none 0 0]) (t := 30) ?hr ?_; (case hd => rfl); (case hg => rfl); (case hr => first | (go_simp; done) | (go_simp; rfl)); intro gb324 hg w18 hbox hb; have n0_ := Aside0.mk (Kd.R_below (by (with_reducible repeat (first | apply Kd.R_alloc | apply Kd.R_drewN | apply Kd.R_drew)); exact HO310.out) hb); have n1_ := Aside0.mk (Kd.S_below (by (with_reducible repeat (first | apply Kd.S_alloc | apply Kd.S_drewN | apply Kd.S_drew)); exact HO315.out) hb); have n2_ := Aside0.mk (Kd.R_below (by (with_reducible repeat (first | apply Kd.R_alloc | apply Kd.R_drewN | apply Kd.R_drew)); exact HL317_0.out) hb); have n3_ := Aside0.mk (Kd.R_below (by (with_reducible repeat (first | apply Kd.R_alloc | apply Kd.R_drewN | apply Kd.R_drew)); exact HO320.out) hb); have n4_ := Aside0.mk (Kd.R_below (by (with_reducible repeat (first | apply Kd.R_alloc | apply Kd.R_drewN | apply Kd.R_drew)); exact HO323.out) hb); have n5_ := Aside0.mk (blk_below (g := gb316) (o := .cells #[.int .i64 t305, .int .i64 t306, .int .i64 t307, .slice Ao13 t308.length co13, .int .i64 t311, .int .i64 t312, .slice (some ad317) t313.length co14] 26 (0, 0)) (by (with_reducible repeat (first | refine blk_drewN ?_ _ | refine blk_drew ?_ | refine blk_alloc ?_ _)); exact BK316.out) hb); have n6_ := Aside0.mk (Kd.C_below (by repeat (first | (with_reducible exact HR317_0.out) | (with_reducible refine Kd.C_alloc ?_ _) | (with_reducible refine Kd.C_drewN ?_ _) | (with_reducible refine Kd.C_drew ?_) | exact HR317_0.out)) hb); have n7_ := Aside0.mk (below_step (by repeat (first | (with_reducible first | exact HB.out | apply below_alloc | apply pw_below_drewN | apply below_drew1 | refine below_set ?_ GE316.out) | exact HB.out)) hb); have n8_ := Aside0.mk (hbox); have n9_ := Aside0.mk ((by rw [hg]; exact (below_size (by repeat (first | (with_reducible first | exact HB.out | apply below_alloc | apply pw_below_drewN | apply below_drew1 | refine below_set ?_ GE316.out) | exact HB.out))) : w.heap.size ≤ gb324)); have n10_ := Aside0.mk ((by rw [hg]; exact (below_size (by repeat (first | (with_reducible first | exact HB.out | apply below_alloc | apply pw_below_drewN | apply below_drew1 | refine below_set ?_ GE316.out) | exact HB.out))) : w.heap.size ≤ gb324)); have n11_ := Aside0.mk ((by rw [hg]; exact Nat.ne_of_lt (blk_lt (g := gb316) (o := .cells #[.int .i64 t305, .int .i64 t306, .int .i64 t307, .slice Ao13 t308.length co13, .int .i64 t311, .int .i64 t312, .slice (some ad317) t313.length co14] 26 (0, 0)) (by (with_reducible repeat (first | refine blk_drewN ?_ _ | refine blk_drew ?_ | refine blk_alloc ?_ _)); exact BK316.out)) : gb316 ≠ gb324)); have n12_ := Aside0.mk ((by rw [hg]; exact Nat.ne_of_gt (blk_lt (g := gb316) (o := .cells #[.int .i64 t305, .int .i64 t306, .int .i64 t307, .slice Ao13 t308.length co13, .int .i64 t311, .int .i64 t312, .slice (some ad317) t313.length co14] 26 (0, 0)) (by (with_reducible repeat (first | refine blk_drewN ?_ _ | refine blk_drew ?_ | refine blk_alloc ?_ _)); exact BK316.out)) : gb324 ≠ gb316)); clear HO310; clear HO315; clear HL317_0; clear HO320; clear HO323; clear BK316; clear HR317_0; clear HB; have HO310 := n0_; have HO315 := n1_; have HL317_0 := n2_; have HO320 := n3_; have HO323 := n4_; have BK316 := n5_; have HR317_0 := n6_; have HB := n7_; have BK324 := n8_; have GW324 := n9_; have GE324 := n10_; have NB316_324 := n11_; have NB324_316 := n12_; clear n0_ n1_ n2_ n3_ n4_ n5_ n6_ n7_ n8_ n9_ n10_ n11_ n12_; clear hb hbox hg; obtain ⟨Ao19, co19, eo19⟩ := Kd.R_slice HO320.out; subst eo19; have hnb20 := NB324_316.out; have hnc20 := NB316_324.out; have hcz21_0 : w18.cell? ⟨gb324, 0, none⟩ = some (.slice none 0 0) := (blk_cell BK324.out 0).trans rfl; have hcz21_1 : w18.cell? ⟨gb324, 1, none⟩ = some (.slice none 0 0) := (blk_cell BK324.out 1).trans rfl; have hfz21_0 := blk_frozen BK324.out 0; have hfz21_1 := blk_frozen BK324.out 1; obtain ⟨Ao22, co22, eo22⟩ := Kd.R_slice HO323.out; subst eo22) | (go_at_call 9; (with_reducible refine (swap_Code.calls k _ _ t318 t325 t328 _ ?side1 ?side2 A9.out).mono ?_); (case side1 => refine (Kd.R_reads' (e := 33) (base := w.heap.size) (ok := fun k_ => (True ∧ some k_ ≠ (.slice A317_0 (rd_L4 t313 (ji5)).length c317_0 : Value).ownBlock)) (n := t318.length) (c := co19) ?_).2.2; exact (by (with_reducible repeat (first | apply Kd.R_alloc | apply Kd.R_drewN | apply Kd.R_drew)); exact (Kd.R_mono (Kd.R_far (p := ⟨gb324, 1, none⟩) (Kd.R_far (p := ⟨gb324, 0, none⟩) (Kd.R_types HO320.out BK324.out (by decide)) (fun _ hk => hk.2) (.slice Ao19 t318.length co19)) (fun _ hk => hk.2) (.slice Ao22 t321.length co22)) (fun _ h_ => h_.1)))); (case side2 => exact (Kd.R_reads' HO320.out).2.1); rintro e w23 ⟨v326, v329, rfl, ho0, ho1, hb⟩; have n0_ := Aside0.mk (Kd.R_elder' (by (with_reducible repeat (first | apply Kd.R_alloc | apply Kd.R_drewN | apply Kd.R_drew)); exact (Kd.R_mono (Kd.R_far (p := ⟨gb324, 1, none⟩) (Kd.R_far (p := ⟨gb324, 0, none⟩) (Kd.R_types HO310.out BK324.out (by decide)) (fun _ hk => hk.2) (.slice Ao19 t318.length co19)) (fun _ hk => hk.2) (.slice Ao22 t321.length co22)) (fun _ h_ => h_.1))) (Kd.R_base ho1) hb); have n1_ := Aside0.mk (Kd.S_elder' (by (with_reducible repeat (first | apply Kd.S_alloc | apply Kd.S_drewN | apply Kd.S_drew)); exact (Kd.S_mono (Kd.S_far (p := ⟨gb324, 1, none⟩) (Kd.S_far (p := ⟨gb324, 0, none⟩) (Kd.S_types HO315.out BK324.out (by decide)) (fun _ hk => hk.2) (.slice Ao19 t318.length co19)) (fun _ hk => hk.2) (.slice Ao22 t321.length co22)) (fun _ h_ => h_.1))) (Kd.R_base ho0) hb); have n2_ := Aside0.mk (Kd.R_elder' (by (with_reducible repeat (first | apply Kd.R_alloc | apply Kd.R_drewN | apply Kd.R_drew)); exact (Kd.R_mono (Kd.R_far (p := ⟨gb324, 1, none⟩) (Kd.R_far (p := ⟨gb324, 0, none⟩) (Kd.R_types HL317_0.out BK324.out (by decide)) (fun _ hk => hk.2) (.slice Ao19 t318.length co19)) (fun _ hk => hk.2) (.slice Ao22 t321.length co22)) (fun _ h_ => h_.1))) (Kd.R_base ho0) hb); have n3_ := Aside0.mk (Kd.R_elder' (by (with_reducible repeat (first | apply Kd.R_alloc | apply Kd.R_drewN | apply Kd.R_drew)); exact (Kd.R_mono (Kd.R_far (p := ⟨gb324, 1, none⟩) (Kd.R_far (p := ⟨gb324, 0, none⟩) (Kd.R_types HO320.out BK324.out (by decide)) (fun _ hk => hk.2) (.slice Ao19 t318.length co19)) (fun _ hk => hk.2) (.slice Ao22 t321.length co22)) (fun _ h_ => h_.1))) (Kd.R_base ho0) hb); have n4_ := Aside0.mk (Kd.R_elder' (by (with_reducible repeat (first | apply Kd.R_alloc | apply Kd.R_drewN | apply Kd.R_drew)); exact (Kd.R_mono (Kd.R_far (p := ⟨gb324, 1, none⟩) (Kd.R_far (p := ⟨gb324, 0, none⟩) (Kd.R_types HO323.out BK324.out (by decide)) (fun _ hk => hk.2) (.slice Ao19 t318.length co19)) (fun _ hk => hk.2) (.slice Ao22 t321.length co22)) (fun _ h_ => h_.1))) (Kd.R_base ho1) hb); have n5_ := Aside0.mk (Kd.R_lower (Kd.R_new' (Kd.R_new' ho0 (Kd.R_lt (by (with_reducible repeat (first | apply Kd.R_alloc | apply Kd.R_drewN | apply Kd.R_drew)); exact (Kd.R_mono (Kd.R_far (p := ⟨gb324, 1, none⟩) (Kd.R_far (p := ⟨gb324, 0, none⟩) (Kd.R_types HL317_0.out BK324.out (by decide)) (fun _ hk => hk.2) (.slice Ao19 t318.length co19)) (fun _ hk => hk.2) (.slice Ao22 t321.length co22)) (fun _ h_ => h_.1))))) (Kd.R_lt (by (with_reducible repeat (first | apply Kd.R_alloc | apply Kd.R_drewN | apply Kd.R_drew)); exact (Kd.R_mono (Kd.R_far (p := ⟨gb324, 1, none⟩) (Kd.R_far (p := ⟨gb324, 0, none⟩) (Kd.R_types HO320.out BK324.out (by decide)) (fun _ hk => hk.2) (.slice Ao19 t318.length co19)) (fun _ hk => hk.2) (.slice Ao22 t321.length co22)) (fun _ h_ => h_.1))))) (below_size (by repeat (first | (with_reducible first | exact HB.out | apply below_alloc | apply pw_below_drewN | apply below_drew1 | refine below_set ?_ GE316.out | refine below_set ?_ GE324.out) | exact HB.out)))); have n6_ := Aside0.mk (Kd.R_lower (Kd.R_new' (Kd.R_new' ho1 (Kd.R_lt (by (with_reducible repeat (first | apply Kd.R_alloc | apply Kd.R_drewN | apply Kd.R_drew)); exact (Kd.R_mono (Kd.R_far (p := ⟨gb324, 1, none⟩) (Kd.R_far (p := ⟨gb324, 0, none⟩) (Kd.R_types HO310.out BK324.out (by decide)) (fun _ hk => hk.2) (.slice Ao19 t318.length co19)) (fun _ hk => hk.2) (.slice Ao22 t321.length co22)) (fun _ h_ => h_.1))))) (Kd.R_lt (by (with_reducible repeat (first | apply Kd.R_alloc | apply Kd.R_drewN | apply Kd.R_drew)); exact (Kd.R_mono (Kd.R_far (p := ⟨gb324, 1, none⟩) (Kd.R_far (p := ⟨gb324, 0, none⟩) (Kd.R_types HO323.out BK324.out (by decide)) (fun _ hk => hk.2) (.slice Ao19 t318.length co19)) (fun _ hk => hk.2) (.slice Ao22 t321.length co22)) (fun _ h_ => h_.1))))) (below_size (by repeat (first | (with_reducible first | exact HB.out | apply below_alloc | apply pw_below_drewN | apply below_drew1 | refine below_set ?_ GE316.out | refine below_set ?_ GE324.out) | exact HB.out)))); have n7_ := Aside0.mk (blk_below (g := gb316) (o := .cells #[.int .i64 t305, .int .i64 t306, .int .i64 t307, .slice Ao13 t308.length co13, .int .i64 t311, .int .i64 t312, .slice (some ad317) t313.length co14] 26 (0, 0)) (by (with_reducible repeat (first | refine blk_drewN ?_ _ | refine blk_drew ?_ | refine blk_alloc ?_ _)); refine blk_far ?_ NB316_324.out _; (with_reducible repeat (first | refine blk_drewN ?_ _ | refine blk_drew ?_ | refine blk_alloc ?_ _)); refine blk_far ?_ NB316_324.out _; (with_reducible repeat (first | refine blk_drewN ?_ _ | refine blk_drew ?_ | refine blk_alloc ?_ _)); exact BK316.out) hb); have n8_ := Aside0.mk (Kd.C_below ((Kd.R_reads' (by (with_reducible repeat (first | apply Kd.R_alloc | apply Kd.R_drewN | apply Kd.R_drew)); exact (Kd.R_mono (Kd.R_far (p := ⟨gb324, 1, none⟩) (Kd.R_far (p := ⟨gb324, 0, none⟩) (Kd.R_types HL317_0.out BK324.out (by decide)) (fun _ hk => hk.2) (.slice Ao19 t318.length co19)) (fun _ hk => hk.2) (.slice Ao22 t321.length co22)) (fun _ h_ => h_.1)))).2.2) hb); have n9_ := Aside0.mk (blk_below (g := gb324) (o := .cells #[.slice Ao19 t318.length co19, .slice Ao22 t321.length co22] 30 (0, 0)) (by (with_reducible repeat (first | refine blk_drewN ?_ _ | refine blk_drew ?_ | refine blk_alloc ?_ _)); refine blk_put (cs := #[.slice Ao19 t318.length co19, .slice none 0 0]) ?_ 1 _ rfl; (with_reducible repeat (first | refine blk_drewN ?_ _ | refine blk_drew ?_ | refine blk_alloc ?_ _)); refine blk_put (cs := #[.slice none 0 0, .slice none 0 0]) ?_ 0 _ rfl; (with_reducible repeat (first | refine blk_drewN ?_ _ | refine blk_drew ?_ | refine blk_alloc ?_ _)); exact BK324.out) hb); have n10_ := Aside0.mk (below_step (by repeat (first | (with_reducible first | exact HB.out | apply below_alloc | apply pw_below_drewN | apply below_drew1 | refine below_set ?_ GE316.out | refine below_set ?_ GE324.out) | exact HB.out)) hb); clear HO310; clear HO315; clear HL317_0; clear HO320; clear HO323; clear BK316; clear HR317_0; clear BK324; clear HB; have HO310 := n0_; have HO315 := n1_; have HL317_0 := n2_; have HO320 := n3_; have HO323 := n4_; have HO327 := n5_; have HO330 := n6_; have BK316 := n7_; have HR317_0 := n8_; have BK324 := n9_; have HB := n10_; clear n0_ n1_ n2_ n3_ n4_ n5_ n6_ n7_ n8_ n9_ n10_; (try clear hb); (try clear hb2); (try clear hk); (try clear hi); (try clear ho0); (try clear ho1)) | ((with_reducible refine gate_dst (N := 8) rfl ?_); refine box_event ?hg (N := 8) ?hd (cs := #[.slice none 0 0, .slice none 0 0]) (t := 30) ?hr ?_; (case hd => rfl); (case hg => rfl); (case hr => first | (go_simp; done) | (go_simp; rfl)); intro gb331 hg w24 hbox hb; have n0_ := Aside0.mk (Kd.R_below (by (with_reducible repeat (first | apply Kd.R_alloc | apply Kd.R_drewN | apply Kd.R_drew)); exact HO310.out) hb); have n1_ := Aside0.mk (Kd.S_below (by (with_reducible repeat (first | apply Kd.S_alloc | apply Kd.S_drewN | apply Kd.S_drew)); exact HO315.out) hb); have n2_ := Aside0.mk (Kd.R_below (by (with_reducible repeat (first | apply Kd.R_alloc | apply Kd.R_drewN | apply Kd.R_drew)); exact HL317_0.out) hb); have n3_ := Aside0.mk (Kd.R_below (by (with_reducible repeat (first | apply Kd.R_alloc | apply Kd.R_drewN | apply Kd.R_drew)); exact HO320.out) hb); have n4_ := Aside0.mk (Kd.R_below (by (with_reducible repeat (first | apply Kd.R_alloc | apply Kd.R_drewN | apply Kd.R_drew)); exact HO323.out) hb); have n5_ := Aside0.mk (Kd.R_below (by (with_reducible repeat (first | apply Kd.R_alloc | apply Kd.R_drewN | apply Kd.R_drew)); exact HO327.out) hb); have n6_ := Aside0.mk (Kd.R_below (by (with_reducible repeat (first | apply Kd.R_alloc | apply Kd.R_drewN | apply Kd.R_drew)); exact HO330.out) hb); have n7_ := Aside0.mk (blk_below (g := gb316) (o := .cells #[.int .i64 t305, .int .i64 t306, .int .i64 t307, .slice Ao13 t308.length co13, .int .i64 t311, .int .i64 t312, .slice (some ad317) t313.length co14] 26 (0, 0)) (by (with_reducible repeat (first | refine blk_drewN ?_ _ | refine blk_drew ?_ | refine blk_alloc ?_ _)); exact BK316.out) hb); have n8_ := Aside0.mk (Kd.C_below (by repeat (first | (with_reducible exact HR317_0.out) | (with_reducible refine Kd.C_alloc ?_ _) | (with_reducible refine Kd.C_drewN ?_ _) | (with_reducible refine Kd.C_drew ?_) | exact HR317_0.out)) hb); have n9_ := Aside0.mk (blk_below (g := gb324) (o := .cells #[.slice Ao19 t318.length co19, .slice Ao22 t321.length co22] 30 (0, 0)) (by (with_reducible repeat (first | refine blk_drewN ?_ _ | refine blk_drew ?_ | refine blk_alloc ?_ _)); exact BK324.out) hb); have n10_ := Aside0.mk (below_step (by repeat (first | (with_reducible first | exact HB.out | apply below_alloc | apply pw_below_drewN | apply below_drew1 | refine below_set ?_ GE316.out | refine below_set ?_ GE324.out) | exact HB.out)) hb); have n11_ := Aside0.mk (hbox); have n12_ := Aside0.mk ((by rw [hg]; exact (below_size (by repeat (first | (with_reducible first | exact HB.out | apply below_alloc | apply pw_below_drewN | apply below_drew1 | refine below_set ?_ GE316.out | refine below_set ?_ GE324.out) | exact HB.out))) : w.heap.size ≤ gb331)); have n13_ := Aside0.mk ((by rw [hg]; exact (below_size (by repeat (first | (with_reducible first | exact HB.out | apply below_alloc | apply pw_below_drewN | apply below_drew1 | refine below_set ?_ GE316.out | refine below_set ?_ GE324.out) | exact HB.out))) : w.heap.size ≤ gb331)); have n14_ := Aside0.mk ((by rw [hg]; exact Nat.ne_of_lt (blk_lt (g := gb316) (o := .cells #[.int .i64 t305, .int .i64 t306, .int .i64 t307, .slice Ao13 t308.length co13, .int .i64 t311, .int .i64 t312, .slice (some ad317) t313.length co14] 26 (0, 0)) (by (with_reducible repeat (first | refine blk_drewN ?_ _ | refine blk_drew ?_ | refine blk_alloc ?_ _)); exact BK316.out)) : gb316 ≠ gb331)); have n15_ := Aside0.mk ((by rw [hg]; exact Nat.ne_of_gt (blk_lt (g := gb316) (o := .cells #[.int .i64 t305, .int .i64 t306, .int .i64 t307, .slice Ao13 t308.length co13, .int .i64 t311, .int .i64 t312, .slice (some ad317) t313.length co14] 26 (0, 0)) (by (with_reducible repeat (first | refine blk_drewN ?_ _ | refine blk_drew ?_ | refine blk_alloc ?_ _)); exact BK316.out)) : gb331 ≠ gb316)); have n16_ := Aside0.mk ((by rw [hg]; exact Nat.ne_of_lt (blk_lt (g := gb324) (o := .cells #[.slice Ao19 t318.length co19, .slice Ao22 t321.length co22] 30 (0, 0)) (by (with_reducible repeat (first | refine blk_drewN ?_ _ | refine blk_drew ?_ | refine blk_alloc ?_ _)); exact BK324.out)) : gb324 ≠ gb331)); have n17_ := Aside0.mk ((by rw [hg]; exact Nat.ne_of_gt (blk_lt (g := gb324) (o := .cells #[.slice Ao19 t318.length co19, .slice Ao22 t321.length co22] 30 (0, 0)) (by (with_reducible repeat (first | refine blk_drewN ?_ _ | refine blk_drew ?_ | refine blk_alloc ?_ _)); exact BK324.out)) : gb331 ≠ gb324)); clear HO310; clear HO315; clear HL317_0; clear HO320; clear HO323; clear HO327; clear HO330; clear BK316; clear HR317_0; clear BK324; clear HB; have HO310 := n0_; have HO315 := n1_; have HL317_0 := n2_; have HO320 := n3_; have HO323 := n4_; have HO327 := n5_; have HO330 := n6_; have BK316 := n7_; have HR317_0 := n8_; have BK324 := n9_; have HB := n10_; have BK331 := n11_; have GW331 := n12_; have GE331 := n13_; have NB316_331 := n14_; have NB331_316 := n15_; have NB324_331 := n16_; have NB331_324 := n17_; clear n0_ n1_ n2_ n3_ n4_ n5_ n6_ n7_ n8_ n9_ n10_ n11_ n12_ n13_ n14_ n15_ n16_ n17_; clear hb hbox hg; obtain ⟨Ao25, co25, eo25⟩ := Kd.R_slice HO327.out; subst eo25; have hnb26 := NB331_316.out; have hnc26 := NB316_331.out; have hnb27 := NB331_324.out; have hnc27 := NB324_331.out; have hcz28_0 : w24.cell? ⟨gb331, 0, none⟩ = some (.slice none 0 0) := (blk_cell BK331.out 0).trans rfl; have hcz28_1 : w24.cell? ⟨gb331, 1, none⟩ = some (.slice none 0 0) := (blk_cell BK331.out 1).trans rfl; have hfz28_0 := blk_frozen BK331.out 0; have hfz28_1 := blk_frozen BK331.out 1; obtain ⟨Ao29, co29, eo29⟩ := Kd.R_slice HO330.out; subst eo29)))
 go_loopg [9] k (fun kq v9 w' => ∃ (i : Nat) (x : Int) (wL : World), v9 = .int .i64 x ∧ Aside0 (x = (i : Int)) ∧ Aside0 (i ≤ t318.length) ∧ Aside0 (interlocklaw19_SwapDone.l0 kq (rd_L4 t313 (ji5)) t318 t325 i = some r) ∧ Aside0 (kq ≤ k) ∧ Aside0 (Below wL.heap.size wL w') ∧ Aside0 (Kd.R k33 33 wL w.heap.size (fun k_ => some k_ ≠ ((.slice Ao25 t325.length co25) : Value).ownBlock) (.slice Ao19 t318.length co19) t318) ∧ Aside0 (Kd.R k33 33 wL w.heap.size (fun k_ => some k_ ≠ ((.slice Ao19 t318.length co19) : Value).ownBlock) (.slice Ao25 t325.length co25) t325) ∧ Aside0 (wL.heap[gb324]? = some (.cells #[(.slice Ao19 t318.length co19), (.slice Ao22 t321.length co22)] 30 (0, 0))) ∧ Aside0 (wL.heap[gb331]? = some (.cells #[(.slice Ao25 t325.length co25), (.slice Ao29 t328.length co29)] 30 (0, 0))) ∧ Aside0 (Kd.C k33 wL A317_0 (rd_L4 t313 (ji5)).length (rd_L4 t313 (ji5))) ∧ Aside0 (Below w.heap.size w wL))
 case atStart => exact ⟨0, 0, _, rfl, ⟨rfl⟩, ⟨Nat.zero_le _⟩, H', ⟨Nat.le_refl _⟩, ⟨Below.refl _ _⟩, ⟨by (with_reducible repeat (first | apply Kd.R_alloc | apply Kd.R_drewN | apply Kd.R_drew)); exact Kd.R_mono (Kd.R_far (p := ⟨gb331, 1, none⟩) (Kd.R_far (p := ⟨gb331, 0, none⟩) (Kd.R_types HO320.out BK331.out (by decide)) (fun _ hk => hk.2) (.slice Ao25 t325.length co25)) (fun _ hk => hk.2) (.slice Ao29 t328.length co29)) (fun _ hk => hk.1.2)⟩, ⟨by (with_reducible repeat (first | apply Kd.R_alloc | apply Kd.R_drewN | apply Kd.R_drew)); exact Kd.R_mono (Kd.R_far (p := ⟨gb331, 1, none⟩) (Kd.R_far (p := ⟨gb331, 0, none⟩) (Kd.R_types HO327.out BK331.out (by decide)) (fun _ hk => hk.2) (.slice Ao25 t325.length co25)) (fun _ hk => hk.2) (.slice Ao29 t328.length co29)) (fun _ hk => hk.1.2)⟩, ⟨by (with_reducible repeat (first | refine blk_drewN ?_ _ | refine blk_drew ?_ | refine blk_alloc ?_ _)); refine blk_far ?_ NB324_331.out _; (with_reducible repeat (first | refine blk_drewN ?_ _ | refine blk_drew ?_ | refine blk_alloc ?_ _)); refine blk_far ?_ NB324_331.out _; (with_reducible repeat (first | refine blk_drewN ?_ _ | refine blk_drew ?_ | refine blk_alloc ?_ _)); exact BK324.out⟩, ⟨by (with_reducible repeat (first | refine blk_drewN ?_ _ | refine blk_drew ?_ | refine blk_alloc ?_ _)); refine blk_put (cs := #[.slice Ao25 t325.length co25, .slice none 0 0]) ?_ 1 _ rfl; (with_reducible repeat (first | refine blk_drewN ?_ _ | refine blk_drew ?_ | refine blk_alloc ?_ _)); refine blk_put (cs := #[.slice none 0 0, .slice none 0 0]) ?_ 0 _ rfl; (with_reducible repeat (first | refine blk_drewN ?_ _ | refine blk_drew ?_ | refine blk_alloc ?_ _)); exact BK331.out⟩, ⟨(Kd.R_reads' (by (with_reducible repeat (first | apply Kd.R_alloc | apply Kd.R_drewN | apply Kd.R_drew)); exact (Kd.R_mono (Kd.R_far (p := ⟨gb331, 1, none⟩) (Kd.R_far (p := ⟨gb331, 0, none⟩) (Kd.R_types HL317_0.out BK331.out (by decide)) (fun _ hk => hk.2) (.slice Ao25 t325.length co25)) (fun _ hk => hk.2) (.slice Ao29 t328.length co29)) (fun _ h_ => h_.1)))).2.2⟩, ⟨by repeat (first | (with_reducible first | exact HB.out | apply below_alloc | apply pw_below_drewN | apply below_drew1 | refine below_set ?_ GE316.out | refine below_set ?_ GE324.out | refine below_set ?_ GE331.out) | exact HB.out)⟩⟩
 case round => (
 obtain ⟨i, x, wL, rfl, HX, HI, HA, HK1, HL, RE, RF, BE, BF, RC, HB⟩ := hrel
 cases gk with
 | zero => exact absurd HA.out (by simp [interlocklaw19_SwapDone.l0])
 | succ k1 => (
 have H := HA.out
 clear HA
 simp only [interlocklaw19_SwapDone.l0] at H
 by_cases hle : t318.length ≤ 1000000
 case neg => rw [if_neg hle] at H; cases H
 rw [if_pos hle] at H
 have CE : Aside0 (wL.cell? ⟨gb324, 0, none⟩ = some (.slice Ao19 t318.length co19)) := ⟨(blk_cell BE.out 0).trans rfl⟩
 have CF : Aside0 (wL.cell? ⟨gb331, 0, none⟩ = some (.slice Ao25 t325.length co25)) := ⟨(blk_cell BF.out 0).trans rfl⟩
 have hce : wr.cell? ⟨gb324, 0, none⟩ = some (.slice Ao19 t318.length co19) := pw_cell_below HL.out CE.out
 by_cases hlt : i + 1 < t318.length
 {
 rw [if_pos hlt] at H
 have hx := HX.out
 obtain ⟨j, hj⟩ : ∃ j : Int, j = ((i + 1 : Nat) : Int) := ⟨_, rfl⟩
 have hj64 : wrap64 (x + 1) = j := by unfold wrap64; omega
 have hjw : IntKind.i64.wrap (x + 1) = j := (i64_w _).trans hj64
 have bx0 : decide (0 ≤ x) = true := decide_eq_true (by omega)
 have bx1 : decide (x < (t318.length : Int)) = true := decide_eq_true (by omega)
 have bj0 : decide (0 ≤ j) = true := decide_eq_true (by omega)
 have bj1 : decide (j < (t318.length : Int)) = true := decide_eq_true (by omega)
 have px0 := eq_true (show 0 ≤ x by omega)
 have px1 := eq_true (show x < (t318.length : Int) by omega)
 have pj0 := eq_true (show 0 ≤ j by omega)
 have pj1 := eq_true (show j < (t318.length : Int) by omega)
 have exi : x.toNat = i := by omega
 have eji : j.toNat = i + 1 := by omega
 obtain ⟨t1, A1, H⟩ := Option.bind_eq_some_iff.1 H
 obtain ⟨t2, A2, H⟩ := Option.bind_eq_some_iff.1 H
 rw [← hx] at A1
 rw [← hj] at A2
 have A1 := Aside0.mk A1
 have A2 := Aside0.mk A2
 obtain ⟨ad, eA, qa0, qa1, qa2, qa3⟩ := at_T33 (Kd.R_reads' RE.out).2.2 x (by omega) (by omega)
 obtain ⟨ad', eB, qb0, qb1, qb2, qb3⟩ := at_T33 (Kd.R_reads' RE.out).2.2 j (by omega) (by omega)
 cases eA
 cases eB
 have ea : rd_T33 t318 x = t318.getD i z33 := by unfold rd_T33; rw [exi]
 have eb : rd_T33 t318 j = t318.getD (i + 1) z33 := by unfold rd_T33; rw [eji]
 rw [ea] at qa0 qa1 qa2 qa3
 rw [eb] at qb0 qb1 qb2 qb3
 generalize t318.getD i z33 = a at H qa0 qa1 qa2 qa3
 generalize t318.getD (i + 1) z33 = b at H qb0 qb1 qb2 qb3
 have ha0 := pw_cell_below HL.out qa0
 have ha1 := pw_cell_below HL.out qa1
 have ha2 := pw_cell_below HL.out qa2
 have ha3 := pw_cell_below HL.out qa3
 have QB0 := Aside0.mk qb0
 have QB1 := Aside0.mk qb1
 have QB2 := Aside0.mk qb2
 have QB3 := Aside0.mk qb3
 have HJ := Aside0.mk hj
 have HI1 := Aside0.mk (show i + 1 ≤ t318.length by omega)
 clear ea eb qa0 qa1 qa2 qa3 qb0 qb1 qb2 qb3 hx hj hlt hle exi eji
 by_cases ht : t1 = t2
 {
 rw [if_pos ht] at H
 have bt : (t1 != t2) = false := bne_eq_false_iff_eq.mpr ht
 have bt2 : (t1 == t2) = true := beq_iff_eq.mpr ht
 clear ht
 by_cases hb7 : b.f0 = 7
 {
 rw [if_pos hb7] at H
 have bb : (b.f0 == 7) = true := beq_iff_eq.mpr hb7
 clear hb7
 by_cases ha7 : a.f0 = 7
 {
 rw [if_pos ha7] at H
 have ba : (a.f0 != 7) = false := bne_eq_false_iff_eq.mpr ha7
 have ba2 : (a.f0 == 7) = true := beq_iff_eq.mpr ha7
 clear ha7
 go_wp2_with (first | ((with_reducible refine gate_dst (N := 10) rfl ?_); refine box_event ?hg (N := 10) ?hd (cs := #[.int .u8 0, .int .i64 0, .int .i64 0, .int .i64 0]) (t := 33) ?hr ?_; (case hd => rfl); (case hg => rfl); (case hr => first | (go_simp; done) | (go_simp; rfl)); intro ga hg wA hbox hb; have GA : Aside0 (wL.heap.size ≤ ga) := ⟨by rw [hg]; exact below_size HL.out⟩; have BLA := Aside0.mk (below_step HL.out hb); have BKA := Aside0.mk hbox; have hfa0 := blk_frozen BKA.out 0; have hfa1 := blk_frozen BKA.out 1; have hfa2 := blk_frozen BKA.out 2; have hfa3 := blk_frozen BKA.out 3; have hza0 : wA.cell? ⟨ga, 0, none⟩ = some (.int .u8 0) := (blk_cell BKA.out 0).trans rfl; have hza1 : wA.cell? ⟨ga, 1, none⟩ = some (.int .i64 0) := (blk_cell BKA.out 1).trans rfl; have hza2 : wA.cell? ⟨ga, 2, none⟩ = some (.int .i64 0) := (blk_cell BKA.out 2).trans rfl; have hza3 : wA.cell? ⟨ga, 3, none⟩ = some (.int .i64 0) := (blk_cell BKA.out 3).trans rfl; clear hg hbox hb hce ha0 ha1 ha2 ha3) | ((with_reducible refine gate_store (t := 33) (p := 10) rfl ?_); refine store_event (w1 := ((((wA.setCell ⟨ga, 0, none⟩ (.int .u8 a.f0)).setCell ⟨ga, 1, none⟩ (.int .i64 a.f1)).setCell ⟨ga, 2, none⟩ (.int .i64 a.f2)).setCell ⟨ga, 3, none⟩ (.int .i64 a.f3))) rfl rfl rfl ?hr ?_; (case hr => first | (go_simp; done) | (go_simp; rfl)); intro wS hS; have BKAs : Aside0 (wS.heap[ga]? = some (.cells #[.int .u8 a.f0, .int .i64 a.f1, .int .i64 a.f2, .int .i64 a.f3] 33 (0, 0))) := ⟨by rw [hS]; exact blk_put (cs := #[.int .u8 a.f0, .int .i64 a.f1, .int .i64 a.f2, .int .i64 0]) (blk_put (cs := #[.int .u8 a.f0, .int .i64 a.f1, .int .i64 0, .int .i64 0]) (blk_put (cs := #[.int .u8 a.f0, .int .i64 0, .int .i64 0, .int .i64 0]) (blk_put (cs := #[.int .u8 0, .int .i64 0, .int .i64 0, .int .i64 0]) BKA.out 0 _ rfl) 1 _ rfl) 2 _ rfl) 3 _ rfl⟩; have BLAs : Aside0 (Below wL.heap.size wL wS) := ⟨by rw [hS]; exact below_set (below_set (below_set (below_set BLA.out GA.out) GA.out) GA.out) GA.out⟩; have hce := pw_cell_below BLAs.out CE.out; have hb0 := pw_cell_below BLAs.out QB0.out; have hb1 := pw_cell_below BLAs.out QB1.out; have hb2 := pw_cell_below BLAs.out QB2.out; have hb3 := pw_cell_below BLAs.out QB3.out; clear hS hza0 hza1 hza2 hza3 hfa0 hfa1 hfa2 hfa3) | ((with_reducible refine gate_dst (N := 11) rfl ?_); refine box_event ?hg (N := 11) ?hd (cs := #[.int .u8 0, .int .i64 0, .int .i64 0, .int .i64 0]) (t := 33) ?hr ?_; (case hd => rfl); (case hg => rfl); (case hr => first | (go_simp; done) | (go_simp; rfl)); intro gb hg wB hbox hb; have NE : Aside0 (ga ≠ gb) := ⟨by rw [hg]; exact Nat.ne_of_lt (blk_lt BKAs.out)⟩; have GB : Aside0 (wL.heap.size ≤ gb) := ⟨by rw [hg]; exact below_size BLAs.out⟩; have BLB := Aside0.mk (below_step BLAs.out hb); have BKA1 := Aside0.mk (blk_below BKAs.out hb); have BKB := Aside0.mk hbox; have hfb0 := blk_frozen BKB.out 0; have hfb1 := blk_frozen BKB.out 1; have hfb2 := blk_frozen BKB.out 2; have hfb3 := blk_frozen BKB.out 3; have hzb0 : wB.cell? ⟨gb, 0, none⟩ = some (.int .u8 0) := (blk_cell BKB.out 0).trans rfl; have hzb1 : wB.cell? ⟨gb, 1, none⟩ = some (.int .i64 0) := (blk_cell BKB.out 1).trans rfl; have hzb2 : wB.cell? ⟨gb, 2, none⟩ = some (.int .i64 0) := (blk_cell BKB.out 2).trans rfl; have hzb3 : wB.cell? ⟨gb, 3, none⟩ = some (.int .i64 0) := (blk_cell BKB.out 3).trans rfl; clear hg hbox hb hce hb0 hb1 hb2 hb3) | ((with_reducible refine gate_store (t := 33) (p := 11) rfl ?_); refine store_event (w1 := ((((wB.setCell ⟨gb, 0, none⟩ (.int .u8 b.f0)).setCell ⟨gb, 1, none⟩ (.int .i64 b.f1)).setCell ⟨gb, 2, none⟩ (.int .i64 b.f2)).setCell ⟨gb, 3, none⟩ (.int .i64 b.f3))) rfl rfl rfl ?hr ?_; (case hr => first | (go_simp; done) | (go_simp; rfl)); intro wT hS; have BKBs : Aside0 (wT.heap[gb]? = some (.cells #[.int .u8 b.f0, .int .i64 b.f1, .int .i64 b.f2, .int .i64 b.f3] 33 (0, 0))) := ⟨by rw [hS]; exact blk_put (cs := #[.int .u8 b.f0, .int .i64 b.f1, .int .i64 b.f2, .int .i64 0]) (blk_put (cs := #[.int .u8 b.f0, .int .i64 b.f1, .int .i64 0, .int .i64 0]) (blk_put (cs := #[.int .u8 b.f0, .int .i64 0, .int .i64 0, .int .i64 0]) (blk_put (cs := #[.int .u8 0, .int .i64 0, .int .i64 0, .int .i64 0]) BKB.out 0 _ rfl) 1 _ rfl) 2 _ rfl) 3 _ rfl⟩; have BLBs : Aside0 (Below wL.heap.size wL wT) := ⟨by rw [hS]; exact below_set (below_set (below_set (below_set BLB.out GB.out) GB.out) GB.out) GB.out⟩; have BKA2 : Aside0 (wT.heap[ga]? = some (.cells #[.int .u8 a.f0, .int .i64 a.f1, .int .i64 a.f2, .int .i64 a.f3] 33 (0, 0))) := ⟨by rw [hS]; exact blk_far (p := ⟨gb, 3, none⟩) (blk_far (p := ⟨gb, 2, none⟩) (blk_far (p := ⟨gb, 1, none⟩) (blk_far (p := ⟨gb, 0, none⟩) BKA1.out NE.out _) NE.out _) NE.out _) NE.out _⟩; have hA0 : wT.cell? ⟨ga, 0, none⟩ = some (.int .u8 a.f0) := (blk_cell BKA2.out 0).trans rfl; have hA1 : wT.cell? ⟨ga, 1, none⟩ = some (.int .i64 a.f1) := (blk_cell BKA2.out 1).trans rfl; have hA2 : wT.cell? ⟨ga, 2, none⟩ = some (.int .i64 a.f2) := (blk_cell BKA2.out 2).trans rfl; have hA3 : wT.cell? ⟨ga, 3, none⟩ = some (.int .i64 a.f3) := (blk_cell BKA2.out 3).trans rfl; have hB0 : wT.cell? ⟨gb, 0, none⟩ = some (.int .u8 b.f0) := (blk_cell BKBs.out 0).trans rfl; have hB1 : wT.cell? ⟨gb, 1, none⟩ = some (.int .i64 b.f1) := (blk_cell BKBs.out 1).trans rfl; have hB2 : wT.cell? ⟨gb, 2, none⟩ = some (.int .i64 b.f2) := (blk_cell BKBs.out 2).trans rfl; have hB3 : wT.cell? ⟨gb, 3, none⟩ = some (.int .i64 b.f3) := (blk_cell BKBs.out 3).trans rfl; clear hS hzb0 hzb1 hzb2 hzb3 hfb0 hfb1 hfb2 hfb3) | (go_at_call 10; (with_reducible refine (interlockref11_Head.calls k1 _ _ (rd_L4 t313 (ji5)) x t1 _ ?side1 ?side2 A1.out).mono ?_); (case side1 => repeat (first | exact Kd.C_below RC.out BLBs.out | (with_reducible refine Kd.C_drewN ?_ _) | (with_reducible refine Kd.C_drew ?_))); (case side2 => exact HC317_0.out); rintro e w' ⟨rfl, ⟨nd, rfl⟩⟩) | (go_at_call 10; (with_reducible refine (interlockref11_Head.calls k1 _ _ (rd_L4 t313 (ji5)) j t2 _ ?side1 ?side2 A2.out).mono ?_); (case side1 => repeat (first | exact Kd.C_below RC.out BLBs.out | (with_reducible refine Kd.C_drewN ?_ _) | (with_reducible refine Kd.C_drew ?_))); (case side2 => exact HC317_0.out); rintro e w' ⟨rfl, ⟨nd, rfl⟩⟩))
 go_roundg k1
 case measure => have := HK1.out; omega
 case rel => exact ⟨i + 1, j, wL, rfl, HJ, HI1, ⟨H⟩, ⟨by have := HK1.out; omega⟩, ⟨by repeat (first | exact BLBs.out | apply pw_below_drewN | apply below_drew1)⟩, RE, RF, BE, BF, RC, HB⟩
 }
 {
 rw [if_neg ha7] at H
 have ba : (a.f0 != 7) = true := bne_iff_ne.mpr ha7
 have ba2 : (a.f0 == 7) = false := beq_eq_false_iff_ne.mpr ha7
 clear ha7
 obtain ⟨t3, A3, H⟩ := Option.bind_eq_some_iff.1 H
 cases t3 with
 | true => rw [if_pos rfl] at H; cases H
 | false => (
 rw [if_neg (by decide)] at H
 have A3 := Aside0.mk A3
 go_wp2_with (first | ((with_reducible refine gate_dst (N := 10) rfl ?_); refine box_event ?hg (N := 10) ?hd (cs := #[.int .u8 0, .int .i64 0, .int .i64 0, .int .i64 0]) (t := 33) ?hr ?_; (case hd => rfl); (case hg => rfl); (case hr => first | (go_simp; done) | (go_simp; rfl)); intro ga hg wA hbox hb; have GA : Aside0 (wL.heap.size ≤ ga) := ⟨by rw [hg]; exact below_size HL.out⟩; have BLA := Aside0.mk (below_step HL.out hb); have BKA := Aside0.mk hbox; have hfa0 := blk_frozen BKA.out 0; have hfa1 := blk_frozen BKA.out 1; have hfa2 := blk_frozen BKA.out 2; have hfa3 := blk_frozen BKA.out 3; have hza0 : wA.cell? ⟨ga, 0, none⟩ = some (.int .u8 0) := (blk_cell BKA.out 0).trans rfl; have hza1 : wA.cell? ⟨ga, 1, none⟩ = some (.int .i64 0) := (blk_cell BKA.out 1).trans rfl; have hza2 : wA.cell? ⟨ga, 2, none⟩ = some (.int .i64 0) := (blk_cell BKA.out 2).trans rfl; have hza3 : wA.cell? ⟨ga, 3, none⟩ = some (.int .i64 0) := (blk_cell BKA.out 3).trans rfl; clear hg hbox hb hce ha0 ha1 ha2 ha3) | ((with_reducible refine gate_store (t := 33) (p := 10) rfl ?_); refine store_event (w1 := ((((wA.setCell ⟨ga, 0, none⟩ (.int .u8 a.f0)).setCell ⟨ga, 1, none⟩ (.int .i64 a.f1)).setCell ⟨ga, 2, none⟩ (.int .i64 a.f2)).setCell ⟨ga, 3, none⟩ (.int .i64 a.f3))) rfl rfl rfl ?hr ?_; (case hr => first | (go_simp; done) | (go_simp; rfl)); intro wS hS; have BKAs : Aside0 (wS.heap[ga]? = some (.cells #[.int .u8 a.f0, .int .i64 a.f1, .int .i64 a.f2, .int .i64 a.f3] 33 (0, 0))) := ⟨by rw [hS]; exact blk_put (cs := #[.int .u8 a.f0, .int .i64 a.f1, .int .i64 a.f2, .int .i64 0]) (blk_put (cs := #[.int .u8 a.f0, .int .i64 a.f1, .int .i64 0, .int .i64 0]) (blk_put (cs := #[.int .u8 a.f0, .int .i64 0, .int .i64 0, .int .i64 0]) (blk_put (cs := #[.int .u8 0, .int .i64 0, .int .i64 0, .int .i64 0]) BKA.out 0 _ rfl) 1 _ rfl) 2 _ rfl) 3 _ rfl⟩; have BLAs : Aside0 (Below wL.heap.size wL wS) := ⟨by rw [hS]; exact below_set (below_set (below_set (below_set BLA.out GA.out) GA.out) GA.out) GA.out⟩; have hce := pw_cell_below BLAs.out CE.out; have hb0 := pw_cell_below BLAs.out QB0.out; have hb1 := pw_cell_below BLAs.out QB1.out; have hb2 := pw_cell_below BLAs.out QB2.out; have hb3 := pw_cell_below BLAs.out QB3.out; clear hS hza0 hza1 hza2 hza3 hfa0 hfa1 hfa2 hfa3) | ((with_reducible refine gate_dst (N := 11) rfl ?_); refine box_event ?hg (N := 11) ?hd (cs := #[.int .u8 0, .int .i64 0, .int .i64 0, .int .i64 0]) (t := 33) ?hr ?_; (case hd => rfl); (case hg => rfl); (case hr => first | (go_simp; done) | (go_simp; rfl)); intro gb hg wB hbox hb; have NE : Aside0 (ga ≠ gb) := ⟨by rw [hg]; exact Nat.ne_of_lt (blk_lt BKAs.out)⟩; have GB : Aside0 (wL.heap.size ≤ gb) := ⟨by rw [hg]; exact below_size BLAs.out⟩; have BLB := Aside0.mk (below_step BLAs.out hb); have BKA1 := Aside0.mk (blk_below BKAs.out hb); have BKB := Aside0.mk hbox; have hfb0 := blk_frozen BKB.out 0; have hfb1 := blk_frozen BKB.out 1; have hfb2 := blk_frozen BKB.out 2; have hfb3 := blk_frozen BKB.out 3; have hzb0 : wB.cell? ⟨gb, 0, none⟩ = some (.int .u8 0) := (blk_cell BKB.out 0).trans rfl; have hzb1 : wB.cell? ⟨gb, 1, none⟩ = some (.int .i64 0) := (blk_cell BKB.out 1).trans rfl; have hzb2 : wB.cell? ⟨gb, 2, none⟩ = some (.int .i64 0) := (blk_cell BKB.out 2).trans rfl; have hzb3 : wB.cell? ⟨gb, 3, none⟩ = some (.int .i64 0) := (blk_cell BKB.out 3).trans rfl; clear hg hbox hb hce hb0 hb1 hb2 hb3) | ((with_reducible refine gate_store (t := 33) (p := 11) rfl ?_); refine store_event (w1 := ((((wB.setCell ⟨gb, 0, none⟩ (.int .u8 b.f0)).setCell ⟨gb, 1, none⟩ (.int .i64 b.f1)).setCell ⟨gb, 2, none⟩ (.int .i64 b.f2)).setCell ⟨gb, 3, none⟩ (.int .i64 b.f3))) rfl rfl rfl ?hr ?_; (case hr => first | (go_simp; done) | (go_simp; rfl)); intro wT hS; have BKBs : Aside0 (wT.heap[gb]? = some (.cells #[.int .u8 b.f0, .int .i64 b.f1, .int .i64 b.f2, .int .i64 b.f3] 33 (0, 0))) := ⟨by rw [hS]; exact blk_put (cs := #[.int .u8 b.f0, .int .i64 b.f1, .int .i64 b.f2, .int .i64 0]) (blk_put (cs := #[.int .u8 b.f0, .int .i64 b.f1, .int .i64 0, .int .i64 0]) (blk_put (cs := #[.int .u8 b.f0, .int .i64 0, .int .i64 0, .int .i64 0]) (blk_put (cs := #[.int .u8 0, .int .i64 0, .int .i64 0, .int .i64 0]) BKB.out 0 _ rfl) 1 _ rfl) 2 _ rfl) 3 _ rfl⟩; have BLBs : Aside0 (Below wL.heap.size wL wT) := ⟨by rw [hS]; exact below_set (below_set (below_set (below_set BLB.out GB.out) GB.out) GB.out) GB.out⟩; have BKA2 : Aside0 (wT.heap[ga]? = some (.cells #[.int .u8 a.f0, .int .i64 a.f1, .int .i64 a.f2, .int .i64 a.f3] 33 (0, 0))) := ⟨by rw [hS]; exact blk_far (p := ⟨gb, 3, none⟩) (blk_far (p := ⟨gb, 2, none⟩) (blk_far (p := ⟨gb, 1, none⟩) (blk_far (p := ⟨gb, 0, none⟩) BKA1.out NE.out _) NE.out _) NE.out _) NE.out _⟩; have hA0 : wT.cell? ⟨ga, 0, none⟩ = some (.int .u8 a.f0) := (blk_cell BKA2.out 0).trans rfl; have hA1 : wT.cell? ⟨ga, 1, none⟩ = some (.int .i64 a.f1) := (blk_cell BKA2.out 1).trans rfl; have hA2 : wT.cell? ⟨ga, 2, none⟩ = some (.int .i64 a.f2) := (blk_cell BKA2.out 2).trans rfl; have hA3 : wT.cell? ⟨ga, 3, none⟩ = some (.int .i64 a.f3) := (blk_cell BKA2.out 3).trans rfl; have hB0 : wT.cell? ⟨gb, 0, none⟩ = some (.int .u8 b.f0) := (blk_cell BKBs.out 0).trans rfl; have hB1 : wT.cell? ⟨gb, 1, none⟩ = some (.int .i64 b.f1) := (blk_cell BKBs.out 1).trans rfl; have hB2 : wT.cell? ⟨gb, 2, none⟩ = some (.int .i64 b.f2) := (blk_cell BKBs.out 2).trans rfl; have hB3 : wT.cell? ⟨gb, 3, none⟩ = some (.int .i64 b.f3) := (blk_cell BKBs.out 3).trans rfl; clear hS hzb0 hzb1 hzb2 hzb3 hfb0 hfb1 hfb2 hfb3) | (go_at_call 10; (with_reducible refine (interlockref11_Head.calls k1 _ _ (rd_L4 t313 (ji5)) x t1 _ ?side1 ?side2 A1.out).mono ?_); (case side1 => repeat (first | exact Kd.C_below RC.out BLBs.out | (with_reducible refine Kd.C_drewN ?_ _) | (with_reducible refine Kd.C_drew ?_))); (case side2 => exact HC317_0.out); rintro e w' ⟨rfl, ⟨nd, rfl⟩⟩) | (go_at_call 10; (with_reducible refine (interlockref11_Head.calls k1 _ _ (rd_L4 t313 (ji5)) j t2 _ ?side1 ?side2 A2.out).mono ?_); (case side1 => repeat (first | exact Kd.C_below RC.out BLBs.out | (with_reducible refine Kd.C_drewN ?_ _) | (with_reducible refine Kd.C_drew ?_))); (case side2 => exact HC317_0.out); rintro e w' ⟨rfl, ⟨nd, rfl⟩⟩) | (go_at_call 11; (with_reducible refine (interlockref19_Apart.calls k1 a.f0 a.f1 a.f2 a.f3 b.f0 b.f1 b.f2 b.f3 false _ A3.out).mono ?_); rintro e w3 ⟨rfl, hb⟩; have BLC := Aside0.mk (below_step (by repeat (first | exact BLBs.out | apply pw_below_drewN | apply below_drew1)) hb); clear hb))
 go_roundg k1
 case measure => have := HK1.out; omega
 case rel => exact ⟨i + 1, j, wL, rfl, HJ, HI1, ⟨H⟩, ⟨by have := HK1.out; omega⟩, ⟨by repeat (first | exact BLC.out | apply pw_below_drewN | apply below_drew1)⟩, RE, RF, BE, BF, RC, HB⟩
 )
 }
 }
 {
 rw [if_neg hb7] at H
 have bb : (b.f0 == 7) = false := beq_eq_false_iff_ne.mpr hb7
 clear hb7
 go_wp2_with (first | ((with_reducible refine gate_dst (N := 10) rfl ?_); refine box_event ?hg (N := 10) ?hd (cs := #[.int .u8 0, .int .i64 0, .int .i64 0, .int .i64 0]) (t := 33) ?hr ?_; (case hd => rfl); (case hg => rfl); (case hr => first | (go_simp; done) | (go_simp; rfl)); intro ga hg wA hbox hb; have GA : Aside0 (wL.heap.size ≤ ga) := ⟨by rw [hg]; exact below_size HL.out⟩; have BLA := Aside0.mk (below_step HL.out hb); have BKA := Aside0.mk hbox; have hfa0 := blk_frozen BKA.out 0; have hfa1 := blk_frozen BKA.out 1; have hfa2 := blk_frozen BKA.out 2; have hfa3 := blk_frozen BKA.out 3; have hza0 : wA.cell? ⟨ga, 0, none⟩ = some (.int .u8 0) := (blk_cell BKA.out 0).trans rfl; have hza1 : wA.cell? ⟨ga, 1, none⟩ = some (.int .i64 0) := (blk_cell BKA.out 1).trans rfl; have hza2 : wA.cell? ⟨ga, 2, none⟩ = some (.int .i64 0) := (blk_cell BKA.out 2).trans rfl; have hza3 : wA.cell? ⟨ga, 3, none⟩ = some (.int .i64 0) := (blk_cell BKA.out 3).trans rfl; clear hg hbox hb hce ha0 ha1 ha2 ha3) | ((with_reducible refine gate_store (t := 33) (p := 10) rfl ?_); refine store_event (w1 := ((((wA.setCell ⟨ga, 0, none⟩ (.int .u8 a.f0)).setCell ⟨ga, 1, none⟩ (.int .i64 a.f1)).setCell ⟨ga, 2, none⟩ (.int .i64 a.f2)).setCell ⟨ga, 3, none⟩ (.int .i64 a.f3))) rfl rfl rfl ?hr ?_; (case hr => first | (go_simp; done) | (go_simp; rfl)); intro wS hS; have BKAs : Aside0 (wS.heap[ga]? = some (.cells #[.int .u8 a.f0, .int .i64 a.f1, .int .i64 a.f2, .int .i64 a.f3] 33 (0, 0))) := ⟨by rw [hS]; exact blk_put (cs := #[.int .u8 a.f0, .int .i64 a.f1, .int .i64 a.f2, .int .i64 0]) (blk_put (cs := #[.int .u8 a.f0, .int .i64 a.f1, .int .i64 0, .int .i64 0]) (blk_put (cs := #[.int .u8 a.f0, .int .i64 0, .int .i64 0, .int .i64 0]) (blk_put (cs := #[.int .u8 0, .int .i64 0, .int .i64 0, .int .i64 0]) BKA.out 0 _ rfl) 1 _ rfl) 2 _ rfl) 3 _ rfl⟩; have BLAs : Aside0 (Below wL.heap.size wL wS) := ⟨by rw [hS]; exact below_set (below_set (below_set (below_set BLA.out GA.out) GA.out) GA.out) GA.out⟩; have hce := pw_cell_below BLAs.out CE.out; have hb0 := pw_cell_below BLAs.out QB0.out; have hb1 := pw_cell_below BLAs.out QB1.out; have hb2 := pw_cell_below BLAs.out QB2.out; have hb3 := pw_cell_below BLAs.out QB3.out; clear hS hza0 hza1 hza2 hza3 hfa0 hfa1 hfa2 hfa3) | ((with_reducible refine gate_dst (N := 11) rfl ?_); refine box_event ?hg (N := 11) ?hd (cs := #[.int .u8 0, .int .i64 0, .int .i64 0, .int .i64 0]) (t := 33) ?hr ?_; (case hd => rfl); (case hg => rfl); (case hr => first | (go_simp; done) | (go_simp; rfl)); intro gb hg wB hbox hb; have NE : Aside0 (ga ≠ gb) := ⟨by rw [hg]; exact Nat.ne_of_lt (blk_lt BKAs.out)⟩; have GB : Aside0 (wL.heap.size ≤ gb) := ⟨by rw [hg]; exact below_size BLAs.out⟩; have BLB := Aside0.mk (below_step BLAs.out hb); have BKA1 := Aside0.mk (blk_below BKAs.out hb); have BKB := Aside0.mk hbox; have hfb0 := blk_frozen BKB.out 0; have hfb1 := blk_frozen BKB.out 1; have hfb2 := blk_frozen BKB.out 2; have hfb3 := blk_frozen BKB.out 3; have hzb0 : wB.cell? ⟨gb, 0, none⟩ = some (.int .u8 0) := (blk_cell BKB.out 0).trans rfl; have hzb1 : wB.cell? ⟨gb, 1, none⟩ = some (.int .i64 0) := (blk_cell BKB.out 1).trans rfl; have hzb2 : wB.cell? ⟨gb, 2, none⟩ = some (.int .i64 0) := (blk_cell BKB.out 2).trans rfl; have hzb3 : wB.cell? ⟨gb, 3, none⟩ = some (.int .i64 0) := (blk_cell BKB.out 3).trans rfl; clear hg hbox hb hce hb0 hb1 hb2 hb3) | ((with_reducible refine gate_store (t := 33) (p := 11) rfl ?_); refine store_event (w1 := ((((wB.setCell ⟨gb, 0, none⟩ (.int .u8 b.f0)).setCell ⟨gb, 1, none⟩ (.int .i64 b.f1)).setCell ⟨gb, 2, none⟩ (.int .i64 b.f2)).setCell ⟨gb, 3, none⟩ (.int .i64 b.f3))) rfl rfl rfl ?hr ?_; (case hr => first | (go_simp; done) | (go_simp; rfl)); intro wT hS; have BKBs : Aside0 (wT.heap[gb]? = some (.cells #[.int .u8 b.f0, .int .i64 b.f1, .int .i64 b.f2, .int .i64 b.f3] 33 (0, 0))) := ⟨by rw [hS]; exact blk_put (cs := #[.int .u8 b.f0, .int .i64 b.f1, .int .i64 b.f2, .int .i64 0]) (blk_put (cs := #[.int .u8 b.f0, .int .i64 b.f1, .int .i64 0, .int .i64 0]) (blk_put (cs := #[.int .u8 b.f0, .int .i64 0, .int .i64 0, .int .i64 0]) (blk_put (cs := #[.int .u8 0, .int .i64 0, .int .i64 0, .int .i64 0]) BKB.out 0 _ rfl) 1 _ rfl) 2 _ rfl) 3 _ rfl⟩; have BLBs : Aside0 (Below wL.heap.size wL wT) := ⟨by rw [hS]; exact below_set (below_set (below_set (below_set BLB.out GB.out) GB.out) GB.out) GB.out⟩; have BKA2 : Aside0 (wT.heap[ga]? = some (.cells #[.int .u8 a.f0, .int .i64 a.f1, .int .i64 a.f2, .int .i64 a.f3] 33 (0, 0))) := ⟨by rw [hS]; exact blk_far (p := ⟨gb, 3, none⟩) (blk_far (p := ⟨gb, 2, none⟩) (blk_far (p := ⟨gb, 1, none⟩) (blk_far (p := ⟨gb, 0, none⟩) BKA1.out NE.out _) NE.out _) NE.out _) NE.out _⟩; have hA0 : wT.cell? ⟨ga, 0, none⟩ = some (.int .u8 a.f0) := (blk_cell BKA2.out 0).trans rfl; have hA1 : wT.cell? ⟨ga, 1, none⟩ = some (.int .i64 a.f1) := (blk_cell BKA2.out 1).trans rfl; have hA2 : wT.cell? ⟨ga, 2, none⟩ = some (.int .i64 a.f2) := (blk_cell BKA2.out 2).trans rfl; have hA3 : wT.cell? ⟨ga, 3, none⟩ = some (.int .i64 a.f3) := (blk_cell BKA2.out 3).trans rfl; have hB0 : wT.cell? ⟨gb, 0, none⟩ = some (.int .u8 b.f0) := (blk_cell BKBs.out 0).trans rfl; have hB1 : wT.cell? ⟨gb, 1, none⟩ = some (.int .i64 b.f1) := (blk_cell BKBs.out 1).trans rfl; have hB2 : wT.cell? ⟨gb, 2, none⟩ = some (.int .i64 b.f2) := (blk_cell BKBs.out 2).trans rfl; have hB3 : wT.cell? ⟨gb, 3, none⟩ = some (.int .i64 b.f3) := (blk_cell BKBs.out 3).trans rfl; clear hS hzb0 hzb1 hzb2 hzb3 hfb0 hfb1 hfb2 hfb3) | (go_at_call 10; (with_reducible refine (interlockref11_Head.calls k1 _ _ (rd_L4 t313 (ji5)) x t1 _ ?side1 ?side2 A1.out).mono ?_); (case side1 => repeat (first | exact Kd.C_below RC.out BLBs.out | (with_reducible refine Kd.C_drewN ?_ _) | (with_reducible refine Kd.C_drew ?_))); (case side2 => exact HC317_0.out); rintro e w' ⟨rfl, ⟨nd, rfl⟩⟩) | (go_at_call 10; (with_reducible refine (interlockref11_Head.calls k1 _ _ (rd_L4 t313 (ji5)) j t2 _ ?side1 ?side2 A2.out).mono ?_); (case side1 => repeat (first | exact Kd.C_below RC.out BLBs.out | (with_reducible refine Kd.C_drewN ?_ _) | (with_reducible refine Kd.C_drew ?_))); (case side2 => exact HC317_0.out); rintro e w' ⟨rfl, ⟨nd, rfl⟩⟩))
 go_roundg k1
 case measure => have := HK1.out; omega
 case rel => exact ⟨i + 1, j, wL, rfl, HJ, HI1, ⟨H⟩, ⟨by have := HK1.out; omega⟩, ⟨by repeat (first | exact BLBs.out | apply pw_below_drewN | apply below_drew1)⟩, RE, RF, BE, BF, RC, HB⟩
 }
 }
 {
 rw [if_neg ht] at H
 have bt : (t1 != t2) = true := bne_iff_ne.mpr ht
 have bt2 : (t1 == t2) = false := beq_eq_false_iff_ne.mpr ht
 clear ht
 go_wp2_with (first | ((with_reducible refine gate_dst (N := 10) rfl ?_); refine box_event ?hg (N := 10) ?hd (cs := #[.int .u8 0, .int .i64 0, .int .i64 0, .int .i64 0]) (t := 33) ?hr ?_; (case hd => rfl); (case hg => rfl); (case hr => first | (go_simp; done) | (go_simp; rfl)); intro ga hg wA hbox hb; have GA : Aside0 (wL.heap.size ≤ ga) := ⟨by rw [hg]; exact below_size HL.out⟩; have BLA := Aside0.mk (below_step HL.out hb); have BKA := Aside0.mk hbox; have hfa0 := blk_frozen BKA.out 0; have hfa1 := blk_frozen BKA.out 1; have hfa2 := blk_frozen BKA.out 2; have hfa3 := blk_frozen BKA.out 3; have hza0 : wA.cell? ⟨ga, 0, none⟩ = some (.int .u8 0) := (blk_cell BKA.out 0).trans rfl; have hza1 : wA.cell? ⟨ga, 1, none⟩ = some (.int .i64 0) := (blk_cell BKA.out 1).trans rfl; have hza2 : wA.cell? ⟨ga, 2, none⟩ = some (.int .i64 0) := (blk_cell BKA.out 2).trans rfl; have hza3 : wA.cell? ⟨ga, 3, none⟩ = some (.int .i64 0) := (blk_cell BKA.out 3).trans rfl; clear hg hbox hb hce ha0 ha1 ha2 ha3) | ((with_reducible refine gate_store (t := 33) (p := 10) rfl ?_); refine store_event (w1 := ((((wA.setCell ⟨ga, 0, none⟩ (.int .u8 a.f0)).setCell ⟨ga, 1, none⟩ (.int .i64 a.f1)).setCell ⟨ga, 2, none⟩ (.int .i64 a.f2)).setCell ⟨ga, 3, none⟩ (.int .i64 a.f3))) rfl rfl rfl ?hr ?_; (case hr => first | (go_simp; done) | (go_simp; rfl)); intro wS hS; have BKAs : Aside0 (wS.heap[ga]? = some (.cells #[.int .u8 a.f0, .int .i64 a.f1, .int .i64 a.f2, .int .i64 a.f3] 33 (0, 0))) := ⟨by rw [hS]; exact blk_put (cs := #[.int .u8 a.f0, .int .i64 a.f1, .int .i64 a.f2, .int .i64 0]) (blk_put (cs := #[.int .u8 a.f0, .int .i64 a.f1, .int .i64 0, .int .i64 0]) (blk_put (cs := #[.int .u8 a.f0, .int .i64 0, .int .i64 0, .int .i64 0]) (blk_put (cs := #[.int .u8 0, .int .i64 0, .int .i64 0, .int .i64 0]) BKA.out 0 _ rfl) 1 _ rfl) 2 _ rfl) 3 _ rfl⟩; have BLAs : Aside0 (Below wL.heap.size wL wS) := ⟨by rw [hS]; exact below_set (below_set (below_set (below_set BLA.out GA.out) GA.out) GA.out) GA.out⟩; have hce := pw_cell_below BLAs.out CE.out; have hb0 := pw_cell_below BLAs.out QB0.out; have hb1 := pw_cell_below BLAs.out QB1.out; have hb2 := pw_cell_below BLAs.out QB2.out; have hb3 := pw_cell_below BLAs.out QB3.out; clear hS hza0 hza1 hza2 hza3 hfa0 hfa1 hfa2 hfa3) | ((with_reducible refine gate_dst (N := 11) rfl ?_); refine box_event ?hg (N := 11) ?hd (cs := #[.int .u8 0, .int .i64 0, .int .i64 0, .int .i64 0]) (t := 33) ?hr ?_; (case hd => rfl); (case hg => rfl); (case hr => first | (go_simp; done) | (go_simp; rfl)); intro gb hg wB hbox hb; have NE : Aside0 (ga ≠ gb) := ⟨by rw [hg]; exact Nat.ne_of_lt (blk_lt BKAs.out)⟩; have GB : Aside0 (wL.heap.size ≤ gb) := ⟨by rw [hg]; exact below_size BLAs.out⟩; have BLB := Aside0.mk (below_step BLAs.out hb); have BKA1 := Aside0.mk (blk_below BKAs.out hb); have BKB := Aside0.mk hbox; have hfb0 := blk_frozen BKB.out 0; have hfb1 := blk_frozen BKB.out 1; have hfb2 := blk_frozen BKB.out 2; have hfb3 := blk_frozen BKB.out 3; have hzb0 : wB.cell? ⟨gb, 0, none⟩ = some (.int .u8 0) := (blk_cell BKB.out 0).trans rfl; have hzb1 : wB.cell? ⟨gb, 1, none⟩ = some (.int .i64 0) := (blk_cell BKB.out 1).trans rfl; have hzb2 : wB.cell? ⟨gb, 2, none⟩ = some (.int .i64 0) := (blk_cell BKB.out 2).trans rfl; have hzb3 : wB.cell? ⟨gb, 3, none⟩ = some (.int .i64 0) := (blk_cell BKB.out 3).trans rfl; clear hg hbox hb hce hb0 hb1 hb2 hb3) | ((with_reducible refine gate_store (t := 33) (p := 11) rfl ?_); refine store_event (w1 := ((((wB.setCell ⟨gb, 0, none⟩ (.int .u8 b.f0)).setCell ⟨gb, 1, none⟩ (.int .i64 b.f1)).setCell ⟨gb, 2, none⟩ (.int .i64 b.f2)).setCell ⟨gb, 3, none⟩ (.int .i64 b.f3))) rfl rfl rfl ?hr ?_; (case hr => first | (go_simp; done) | (go_simp; rfl)); intro wT hS; have BKBs : Aside0 (wT.heap[gb]? = some (.cells #[.int .u8 b.f0, .int .i64 b.f1, .int .i64 b.f2, .int .i64 b.f3] 33 (0, 0))) := ⟨by rw [hS]; exact blk_put (cs := #[.int .u8 b.f0, .int .i64 b.f1, .int .i64 b.f2, .int .i64 0]) (blk_put (cs := #[.int .u8 b.f0, .int .i64 b.f1, .int .i64 0, .int .i64 0]) (blk_put (cs := #[.int .u8 b.f0, .int .i64 0, .int .i64 0, .int .i64 0]) (blk_put (cs := #[.int .u8 0, .int .i64 0, .int .i64 0, .int .i64 0]) BKB.out 0 _ rfl) 1 _ rfl) 2 _ rfl) 3 _ rfl⟩; have BLBs : Aside0 (Below wL.heap.size wL wT) := ⟨by rw [hS]; exact below_set (below_set (below_set (below_set BLB.out GB.out) GB.out) GB.out) GB.out⟩; have BKA2 : Aside0 (wT.heap[ga]? = some (.cells #[.int .u8 a.f0, .int .i64 a.f1, .int .i64 a.f2, .int .i64 a.f3] 33 (0, 0))) := ⟨by rw [hS]; exact blk_far (p := ⟨gb, 3, none⟩) (blk_far (p := ⟨gb, 2, none⟩) (blk_far (p := ⟨gb, 1, none⟩) (blk_far (p := ⟨gb, 0, none⟩) BKA1.out NE.out _) NE.out _) NE.out _) NE.out _⟩; have hA0 : wT.cell? ⟨ga, 0, none⟩ = some (.int .u8 a.f0) := (blk_cell BKA2.out 0).trans rfl; have hA1 : wT.cell? ⟨ga, 1, none⟩ = some (.int .i64 a.f1) := (blk_cell BKA2.out 1).trans rfl; have hA2 : wT.cell? ⟨ga, 2, none⟩ = some (.int .i64 a.f2) := (blk_cell BKA2.out 2).trans rfl; have hA3 : wT.cell? ⟨ga, 3, none⟩ = some (.int .i64 a.f3) := (blk_cell BKA2.out 3).trans rfl; have hB0 : wT.cell? ⟨gb, 0, none⟩ = some (.int .u8 b.f0) := (blk_cell BKBs.out 0).trans rfl; have hB1 : wT.cell? ⟨gb, 1, none⟩ = some (.int .i64 b.f1) := (blk_cell BKBs.out 1).trans rfl; have hB2 : wT.cell? ⟨gb, 2, none⟩ = some (.int .i64 b.f2) := (blk_cell BKBs.out 2).trans rfl; have hB3 : wT.cell? ⟨gb, 3, none⟩ = some (.int .i64 b.f3) := (blk_cell BKBs.out 3).trans rfl; clear hS hzb0 hzb1 hzb2 hzb3 hfb0 hfb1 hfb2 hfb3) | (go_at_call 10; (with_reducible refine (interlockref11_Head.calls k1 _ _ (rd_L4 t313 (ji5)) x t1 _ ?side1 ?side2 A1.out).mono ?_); (case side1 => repeat (first | exact Kd.C_below RC.out BLBs.out | (with_reducible refine Kd.C_drewN ?_ _) | (with_reducible refine Kd.C_drew ?_))); (case side2 => exact HC317_0.out); rintro e w' ⟨rfl, ⟨nd, rfl⟩⟩) | (go_at_call 10; (with_reducible refine (interlockref11_Head.calls k1 _ _ (rd_L4 t313 (ji5)) j t2 _ ?side1 ?side2 A2.out).mono ?_); (case side1 => repeat (first | exact Kd.C_below RC.out BLBs.out | (with_reducible refine Kd.C_drewN ?_ _) | (with_reducible refine Kd.C_drew ?_))); (case side2 => exact HC317_0.out); rintro e w' ⟨rfl, ⟨nd, rfl⟩⟩))
 go_roundg k1
 case measure => have := HK1.out; omega
 case rel => exact ⟨i + 1, j, wL, rfl, HJ, HI1, ⟨H⟩, ⟨by have := HK1.out; omega⟩, ⟨by repeat (first | exact BLBs.out | apply pw_below_drewN | apply below_drew1)⟩, RE, RF, BE, BF, RC, HB⟩
 }
 }
 {
 rw [if_neg hlt] at H
 obtain ⟨t4, A4, H⟩ := Option.bind_eq_some_iff.1 H
 by_cases h4 : t4 = true
 case neg => rw [if_neg h4] at H; cases H
 rw [if_pos h4] at H
 subst h4
 have A4 := Aside0.mk A4
 have A5 := Aside0.mk H
 clear H
 have hx := HX.out
 have hi := HI.out
 obtain ⟨j, hj⟩ : ∃ j : Int, j = x + 1 := ⟨_, rfl⟩
 have hj64 : wrap64 (x + 1) = j := by unfold wrap64; omega
 have hjw : IntKind.i64.wrap (x + 1) = j := (i64_w _).trans hj64
 have bj1 : decide (j < (t318.length : Int)) = false := decide_eq_false (by omega)
 clear hx hj hlt hi hle
 go_wp2_with (first | (go_at_call 12; (with_reducible refine (interlocklaw19_known.calls k1 true _ A4.out).mono ?_); rintro e w4 ⟨rfl, hb⟩; have BL4 := Aside0.mk (below_step HL.out hb); have hcf := pw_cell_below BL4.out CF.out; have hce := pw_cell_below BL4.out CE.out; clear hb) | (go_at_call 13; (with_reducible refine (interlockref02_SameCode.calls k1 _ _ t318 _ _ t325 r _ ?side1 ?side2 ?side3 ?side4 A5.out).mono ?_); (case side1 => repeat (first | exact Kd.C_below (Kd.R_reads' RE.out).2.2 BL4.out | (with_reducible refine Kd.C_drewN ?_ _) | (with_reducible refine Kd.C_drew ?_))); (case side2 => exact (Kd.R_reads' RE.out).2.1); (case side3 => repeat (first | exact Kd.C_below (Kd.R_reads' RF.out).2.2 BL4.out | (with_reducible refine Kd.C_drewN ?_ _) | (with_reducible refine Kd.C_drew ?_))); (case side4 => exact (Kd.R_reads' RF.out).2.1); rintro e w' ⟨rfl, ⟨nd, rfl⟩⟩))
 go_ret
 exact ⟨rfl, below_then HB.out (below_size HB.out) (by repeat (first | exact BL4.out | apply pw_below_drewN | apply below_drew1))⟩
 }
 )
 )
 }
 {
 rw [if_neg c7] at H
 cases H
 }
 }
 {
 rw [if_neg c6] at H
 cases H
 }
 }
/-! ### interlockref16_Own: function 31 -/
def interlockref16_Own.l0 : Nat → Int → List Int → Int → Option (List Int)
  | 0, _, _, _ => none
  | k + 1, x0, x3, x4 => if x4 < x0 then (if x3.length < 17592186044416 then (interlockref16_Own.l0 k x0 (x3 ++ [x4]) (wrap64 (x4 + 1))) else (none)) else (some x3)
def interlockref16_Own.f (k : Nat) (a0 : Int) : Option (List Int) := interlockref16_Own.l0 k a0 ([] : List Int) 0
theorem interlockref16_Own.mono_l : ∀ k, (∀ y0 y1 y2, LeO (interlockref16_Own.l0 k y0 y1 y2) (interlockref16_Own.l0 (k + 1) y0 y1 y2))
  | 0 => fun _ _ _ r h => by simp [interlockref16_Own.l0] at h
  | k + 1 => by
    have ih0 := interlockref16_Own.mono_l k
    · intro y0 y1 y2
      unfold interlockref16_Own.l0
      repeat' first
      | (with_reducible exact ih0 _ _ _)
      | (with_reducible exact LeO.refl _)
      | (with_reducible exact LeO.none _)
      | (with_reducible refine LeO.ite ?_ ?_)
      | (with_reducible refine LeO.bind ?_ (fun _ => ?_))
      | exact ih0 _ _ _
      | exact LeO.none _
      | refine LeO.ite ?_ ?_
      | refine LeO.bind ?_ (fun _ => ?_)
theorem interlockref16_Own.mono : ∀ a0 k, LeO (interlockref16_Own.f k a0) (interlockref16_Own.f (k + 1) a0) := by
  intro a0 k
  have ih0 := interlockref16_Own.mono_l k
  unfold interlockref16_Own.f
  repeat' first
      | (with_reducible exact ih0 _ _ _)
      | (with_reducible exact LeO.refl _)
      | (with_reducible exact LeO.none _)
      | (with_reducible refine LeO.ite ?_ ?_)
      | (with_reducible refine LeO.bind ?_ (fun _ => ?_))
      | exact ih0 _ _ _
      | exact LeO.none _
      | refine LeO.ite ?_ ?_
      | refine LeO.bind ?_ (fun _ => ?_)
set_option maxHeartbeats 8000000 in
set_option maxRecDepth 100000 in
theorem interlockref16_Own.calls (k : Nat) (a0 : Int) (r : List Int) (w : World) (h : interlockref16_Own.f k a0 = some r) :
    Calls Try.prog 31 #[.int .i64 a0] w fun e w' => ∃ v0_ : Value, e = .returned (v0_) ∧ Kd.R (Kd.int .i64) 3 w' w.heap.size (fun _ => True) v0_ r ∧ Below w.heap.size w w' := by
  have HB := Aside0.mk (Below.refl w.heap.size w)
  have H : (interlockref16_Own.l0 k a0 ([] : List Int) 0) = some r := h
  clear h
  have H' := Aside0.mk H
  clear H
  go_enter Try.func31, Try.ntmps31
  go_wp2
  go_loopg [3, 4] k (fun kq v3 v4 w' => ∃ (x3_1 : List Int) (x4_1 : Int), v4 = .int .i64 x4_1 ∧ Aside0 (interlockref16_Own.l0 kq a0 x3_1 x4_1 = some r) ∧ Aside0 (kq ≤ k) ∧ Aside0 (Kd.R (Kd.int .i64) 3 w' w.heap.size (fun _ => True) v3 x3_1) ∧ Aside0 (Below w.heap.size w w'))
  case atStart => exact ⟨(([] : List Int)), (0), (by first | rfl | (simp; done) | (simp [*]; done)), H', ⟨Nat.le_refl _⟩, ⟨by first | exact Kd.R_nil _ _ _ _ _ | exact Kd.N_nil _ _ _ _ _ | exact Kd.V_nil _ _ _ _ _ | exact Kd.Q_nil _ _ _ _ _ | exact Kd.S_nil _ _ _ _ _⟩, ⟨by repeat (first | (with_reducible first | exact HB.out | apply below_alloc | apply pw_below_drewN | apply below_drew1) | exact HB.out)⟩⟩
  case round =>
    clear H'
    obtain ⟨x3_1, x4_1, rfl, HA, HK1, HO_3, HB⟩ := hrel
    cases gk with
    | zero => exact absurd HA.out (by simp [interlockref16_Own.l0])
    | succ k1 =>
      have H := HA.out
      clear HA
      simp only [interlockref16_Own.l0] at H
      by_cases c2 : x4_1 < a0
      · rw [if_pos c2] at H
        have c2b0 : decide (x4_1 < a0) = true := decide_eq_true c2
        clear c2
        by_cases c3 : x3_1.length < 17592186044416
        · rw [if_pos c3] at H
          have LMc3 := Aside0.mk c3
          clear c3
          obtain ⟨y305, hy305⟩ : ∃ y_ : List Int, y_ = (x3_1 ++ [x4_1]) := ⟨_, rfl⟩
          replace H : (interlockref16_Own.l0 k1 a0 y305 (wrap64 (x4_1 + 1))) = some r := by first | (rw [hy305]; with_reducible exact H) | (have H2_ := (Option.bind_some _ _).symm.trans H; rw [hy305]; with_reducible exact H2_) | (have H2_ := (Option.bind_some _ _).symm.trans H; with_reducible exact H2_) | with_reducible exact H | (rw [hy305]; exact H) | exact H
          have Ny305 := Aside0.mk hy305
          clear hy305
          have H' := Aside0.mk H
          clear H
          go_wp2_with (first | ((with_reducible refine gate_builtin (b := .append) (xs := #[.tmp 10, .tmp 12]) rfl ?_); at_builtin; refine Kd.R_append (Kd.int .i64) (w0 := w) w.heap.size rfl (.tmp 10) (.tmp 12) 23 3 (.int .i64 0) 8 rfl Try.underlying23 info3 rfl (by decide) (by omega) u3 x3_1 x4_1 [.int .i64 x4_1] (fun _ => True) (fun _ => False) rfl rfl ?aP (fun _ hk => hk.elim) ?aF ?aO ?aB ?aS ?aL ?_; (case aP => exact rfl); (case aB => exact (by repeat (first | (with_reducible first | exact HB.out | apply below_alloc | apply pw_below_drewN | apply below_drew1) | exact HB.out))); (case aF => exact (fun _ _ => trivial)); (case aO => exact (by (with_reducible repeat (first | apply Kd.R_alloc | apply Kd.R_drewN | apply Kd.R_drew)); exact HO_3.out)); (case aS => exact (below_size (by repeat (first | (with_reducible first | exact HB.out | apply below_alloc | apply pw_below_drewN | apply below_drew1) | exact HB.out)))); (case aL => have := LMc3.out; omega); intro v306 w4 ho hb hg hat; rw [← Ny305.out] at ho; have n0_ := Aside0.mk (hb); have n1_ := Aside0.mk (ho); clear HB; clear HO_3; have HB := n0_; have HO307 := n1_; clear n0_ n1_; clear ho hb hg hat))
          go_roundg k1
          case measure => have := HK1.out; omega
          case rel => exact ⟨(y305), (wrap64 (x4_1 + 1)), (by first | rfl | (simp; done) | (simp [*]; done)), H', ⟨by have := HK1.out; omega⟩, ⟨by (with_reducible repeat (first | apply Kd.R_alloc | apply Kd.R_drewN | apply Kd.R_drew)); exact HO307.out⟩, ⟨by repeat (first | (with_reducible first | exact HB.out | apply below_alloc | apply pw_below_drewN | apply below_drew1) | exact HB.out)⟩⟩
        · rw [if_neg c3] at H
          exact absurd H (by simp)
      · rw [if_neg c2] at H
        have c2b0 : decide (x4_1 < a0) = false := decide_eq_false c2
        clear c2
        obtain rfl := Option.some.inj H
        go_wp2
        go_ret
        exact ⟨_, by first | rfl | (simp [errW_none, errW_some] <;> rfl) | (simp [*, errW_none, errW_some] <;> rfl), by (with_reducible repeat (first | apply Kd.R_alloc | apply Kd.R_drewN | apply Kd.R_drew)); exact HO_3.out, by repeat (first | (with_reducible first | exact HB.out | apply below_alloc | apply pw_below_drewN | apply below_drew1) | exact HB.out)⟩

/-! ### interlockref19_rank: function 46 -/
def interlockref19_rank.f (a0 : Int) : Option (Int) := if a0 = 7 then (some 0) else (if a0 = 8 then (some 2) else (if a0 = 0 then (some 3) else (some 1)))
set_option maxHeartbeats 8000000 in
set_option maxRecDepth 100000 in
theorem interlockref19_rank.calls (a0 : Int) (r : Int) (w : World) (h : interlockref19_rank.f a0 = some r) :
    Calls Try.prog 46 #[.int .u8 a0] w fun e w' => e = .returned (.int .i64 r) ∧ Drawn0 w w' := by
  have H : (if a0 = 7 then (some 0) else (if a0 = 8 then (some 2) else (if a0 = 0 then (some 3) else (some 1)))) = some r := h
  clear h
  by_cases c2 : a0 = 7
  · rw [if_pos c2] at H
    have c2b0 : (a0 == 7) = true := beq_iff_eq.mpr c2
    have c2b1 : (a0 != 7) = false := bne_eq_false_iff_eq.mpr c2
    clear c2
    obtain rfl := Option.some.inj H
    go_enter Try.func46, Try.ntmps46
    go_wp2
    go_ret
    exact ⟨by first | rfl | (simp; done) | (simp [*]; done), by repeat (first | exact Drawn0.refl _ | apply Drawn0.step)⟩
  · rw [if_neg c2] at H
    have c2b0 : (a0 == 7) = false := beq_eq_false_iff_ne.mpr c2
    have c2b1 : (a0 != 7) = true := bne_iff_ne.mpr c2
    by_cases c3 : a0 = 8
    · rw [if_pos c3] at H
      have c3b0 : (a0 == 8) = true := beq_iff_eq.mpr c3
      have c3b1 : (a0 != 8) = false := bne_eq_false_iff_eq.mpr c3
      clear c3
      obtain rfl := Option.some.inj H
      go_enter Try.func46, Try.ntmps46
      go_wp2
      go_ret
      exact ⟨by first | rfl | (simp; done) | (simp [*]; done), by repeat (first | exact Drawn0.refl _ | apply Drawn0.step)⟩
    · rw [if_neg c3] at H
      have c3b0 : (a0 == 8) = false := beq_eq_false_iff_ne.mpr c3
      have c3b1 : (a0 != 8) = true := bne_iff_ne.mpr c3
      by_cases c4 : a0 = 0
      · rw [if_pos c4] at H
        have c4b0 : (a0 == 0) = true := beq_iff_eq.mpr c4
        have c4b1 : (a0 != 0) = false := bne_eq_false_iff_eq.mpr c4
        clear c4
        obtain rfl := Option.some.inj H
        go_enter Try.func46, Try.ntmps46
        go_wp2
        go_ret
        exact ⟨by first | rfl | (simp; done) | (simp [*]; done), by repeat (first | exact Drawn0.refl _ | apply Drawn0.step)⟩
      · rw [if_neg c4] at H
        have c4b0 : (a0 == 0) = false := beq_eq_false_iff_ne.mpr c4
        have c4b1 : (a0 != 0) = true := bne_iff_ne.mpr c4
        obtain rfl := Option.some.inj H
        go_enter Try.func46, Try.ntmps46
        go_wp2
        go_ret
        exact ⟨by first | rfl | (simp; done) | (simp [*]; done), by repeat (first | exact Drawn0.refl _ | apply Drawn0.step)⟩

end Go.Proofs.Yticdodbnjlnjlaa.P
