-- written by this project's xprint.py (a turn of the kit's printer; its own texts among them)
import Derived.Test.YticdodbnjlnjlaaPx0
import Derived.Test.YticdodbnjlnjlaaPx4
import Derived.Test.YticdodbnjlnjlaaPx6
namespace Go.Proofs.Yticdodbnjlnjlaa.P
open Go.RowKit Go.Proofs.YticdodbnjlnjlaaW.PrintWords Go.Proofs.YticdodbnjlnjlaaW.PrintLast Go.Proofs.YticdodbnjlnjlaaW.PrintMore
attribute [local go_sem] max2_int min2_int max_two min_two max_three min_three max_four min_four   -- for this text's walks alone
attribute [local irreducible] Calls
set_option linter.unusedVariables false
set_option linter.unusedSimpArgs false

/-! ### interlocklaw19_known: function 12 -/
def interlocklaw19_known.f (k : Nat)  : Option (Bool) := (swap_Code.f k (([(⟨8, 0, 1, 0⟩ : S33), (⟨7, 2, 1, 0⟩ : S33), (⟨3, 1, 2, 2⟩ : S33)] : List (S33)))).bind fun bt167 => (if (bt167.1.length : Int) = 3 then (if (bt167.2.length : Int) = 3 then (if 0 < (bt167.1.length : Int) then (if ((rd_T33 bt167.1 0).f0) = 7 then (if 1 < (bt167.1.length : Int) then (if ((rd_T33 bt167.1 1).f0) = 8 then (if 2 < (bt167.1.length : Int) then (if ((rd_T33 bt167.1 2).f0) = 3 then (if 0 < (bt167.2.length : Int) then (if (rd bt167.2 0) = 1 then (if 1 < (bt167.2.length : Int) then (if (rd bt167.2 1) = 0 then ((swap_Apart.f k 8 0 0 0 7 1 0 0).bind fun t179 => (if t179 = true then (none) else ((swap_Apart.f k 7 0 0 0 7 1 0 0).bind fun t180 => (some t180)))) else (none)) else (none)) else (none)) else (none)) else (none)) else (none)) else (none)) else (none)) else (none)) else (none)) else (none)) else (none))
theorem interlocklaw19_known.mono : ∀ k, LeO (interlocklaw19_known.f k ) (interlocklaw19_known.f (k + 1) ) := by
  intro  k
  unfold interlocklaw19_known.f
  repeat' first
      | (with_reducible exact swap_Apart.mono _ _ _ _ _ _ _ _ _)
      | (with_reducible exact swap_Code.mono _ _)
      | (with_reducible exact LeO.refl _)
      | (with_reducible exact LeO.none _)
      | (with_reducible refine LeO.ite ?_ ?_)
      | (with_reducible refine LeO.bind ?_ (fun _ => ?_))
      | exact LeO.none _
      | refine LeO.ite ?_ ?_
      | refine LeO.bind ?_ (fun _ => ?_)
set_option maxHeartbeats 8000000 in
set_option maxRecDepth 100000 in
theorem interlocklaw19_known.calls (k : Nat)  (r : Bool) (w : World) (h : interlocklaw19_known.f k  = some r) :
    Calls Try.prog 12 #[] w fun e w' => e = .returned (.bool r) ∧ Below w.heap.size w w' := by
 have hu33 := Try.underlying33
 have hu30 := Try.underlying30
 have HB := Aside0.mk (Below.refl w.heap.size w)
 have H : ((swap_Code.f k (([(⟨8, 0, 1, 0⟩ : S33), (⟨7, 2, 1, 0⟩ : S33), (⟨3, 1, 2, 2⟩ : S33)] : List (S33)))).bind fun bt167 => (if (bt167.1.length : Int) = 3 then (if (bt167.2.length : Int) = 3 then (if 0 < (bt167.1.length : Int) then (if ((rd_T33 bt167.1 0).f0) = 7 then (if 1 < (bt167.1.length : Int) then (if ((rd_T33 bt167.1 1).f0) = 8 then (if 2 < (bt167.1.length : Int) then (if ((rd_T33 bt167.1 2).f0) = 3 then (if 0 < (bt167.2.length : Int) then (if (rd bt167.2 0) = 1 then (if 1 < (bt167.2.length : Int) then (if (rd bt167.2 1) = 0 then ((swap_Apart.f k 8 0 0 0 7 1 0 0).bind fun t179 => (if t179 = true then (none) else ((swap_Apart.f k 7 0 0 0 7 1 0 0).bind fun t180 => (some t180)))) else (none)) else (none)) else (none)) else (none)) else (none)) else (none)) else (none)) else (none)) else (none)) else (none)) else (none)) else (none))) = some r := h
 clear h
 obtain ⟨y164, hy164⟩ : ∃ y_ : List (S33), y_ = (([(⟨8, 0, 1, 0⟩ : S33), (⟨7, 2, 1, 0⟩ : S33), (⟨3, 1, 2, 2⟩ : S33)] : List (S33))) := ⟨_, rfl⟩
 replace H : ((swap_Code.f k y164).bind fun bt167 => (if (bt167.1.length : Int) = 3 then (if (bt167.2.length : Int) = 3 then (if 0 < (bt167.1.length : Int) then (if ((rd_T33 bt167.1 0).f0) = 7 then (if 1 < (bt167.1.length : Int) then (if ((rd_T33 bt167.1 1).f0) = 8 then (if 2 < (bt167.1.length : Int) then (if ((rd_T33 bt167.1 2).f0) = 3 then (if 0 < (bt167.2.length : Int) then (if (rd bt167.2 0) = 1 then (if 1 < (bt167.2.length : Int) then (if (rd bt167.2 1) = 0 then ((swap_Apart.f k 8 0 0 0 7 1 0 0).bind fun t179 => (if t179 = true then (none) else ((swap_Apart.f k 7 0 0 0 7 1 0 0).bind fun t180 => (some t180)))) else (none)) else (none)) else (none)) else (none)) else (none)) else (none)) else (none)) else (none)) else (none)) else (none)) else (none)) else (none))) = some r := by first | (rw [hy164]; with_reducible exact H) | (have H2_ := (Option.bind_some _ _).symm.trans H; rw [hy164]; with_reducible exact H2_) | (have H2_ := (Option.bind_some _ _).symm.trans H; with_reducible exact H2_) | with_reducible exact H | (rw [hy164]; exact H) | exact H
 have Ny164 := Aside0.mk hy164
 clear hy164
 replace H := Option.bind_eq_some_iff.mp H
 obtain ⟨⟨t167, t170⟩, A10, H⟩ := H
 replace H : (if (t167.length : Int) = 3 then (if (t170.length : Int) = 3 then (if 0 < (t167.length : Int) then (if ((rd_T33 t167 0).f0) = 7 then (if 1 < (t167.length : Int) then (if ((rd_T33 t167 1).f0) = 8 then (if 2 < (t167.length : Int) then (if ((rd_T33 t167 2).f0) = 3 then (if 0 < (t170.length : Int) then (if (rd t170 0) = 1 then (if 1 < (t170.length : Int) then (if (rd t170 1) = 0 then ((swap_Apart.f k 8 0 0 0 7 1 0 0).bind fun t179 => (if t179 = true then (none) else ((swap_Apart.f k 7 0 0 0 7 1 0 0).bind fun t180 => (some t180)))) else (none)) else (none)) else (none)) else (none)) else (none)) else (none)) else (none)) else (none)) else (none)) else (none)) else (none)) else (none)) = some r := H
 have A1 := Aside0.mk A10
 clear A10
 by_cases c2 : (t167.length : Int) = 3
 {
 rw [if_pos c2] at H
 have c2b0 : ((t167.length : Int) == 3) = true := beq_iff_eq.mpr c2
 have c2b1 : ((t167.length : Int) != 3) = false := bne_eq_false_iff_eq.mpr c2
 clear c2
 by_cases c3 : (t170.length : Int) = 3
 {
 rw [if_pos c3] at H
 have c3b0 : ((t170.length : Int) == 3) = true := beq_iff_eq.mpr c3
 have c3b1 : ((t170.length : Int) != 3) = false := bne_eq_false_iff_eq.mpr c3
 clear c3
 by_cases c4 : 0 < (t167.length : Int)
 {
 rw [if_pos c4] at H
 have c4b0 : decide (0 < (t167.length : Int)) = true := decide_eq_true c4
 have c4b1 : decide (0 < t167.length) = true := decide_eq_true (by omega)
 clear c4
 by_cases c5 : ((rd_T33 t167 0).f0) = 7
 {
 rw [if_pos c5] at H
 have c5b0 : (((rd_T33 t167 0).f0) == 7) = true := beq_iff_eq.mpr c5
 have c5b1 : (((rd_T33 t167 0).f0) != 7) = false := bne_eq_false_iff_eq.mpr c5
 clear c5
 by_cases c6 : 1 < (t167.length : Int)
 {
 rw [if_pos c6] at H
 have c6b0 : decide (1 < (t167.length : Int)) = true := decide_eq_true c6
 have c6b1 : decide (1 < t167.length) = true := decide_eq_true (by omega)
 clear c6
 by_cases c7 : ((rd_T33 t167 1).f0) = 8
 {
 rw [if_pos c7] at H
 have c7b0 : (((rd_T33 t167 1).f0) == 8) = true := beq_iff_eq.mpr c7
 have c7b1 : (((rd_T33 t167 1).f0) != 8) = false := bne_eq_false_iff_eq.mpr c7
 clear c7
 by_cases c8 : 2 < (t167.length : Int)
 {
 rw [if_pos c8] at H
 have c8b0 : decide (2 < (t167.length : Int)) = true := decide_eq_true c8
 have c8b1 : decide (2 < t167.length) = true := decide_eq_true (by omega)
 clear c8
 by_cases c9 : ((rd_T33 t167 2).f0) = 3
 {
 rw [if_pos c9] at H
 have c9b0 : (((rd_T33 t167 2).f0) == 3) = true := beq_iff_eq.mpr c9
 have c9b1 : (((rd_T33 t167 2).f0) != 3) = false := bne_eq_false_iff_eq.mpr c9
 clear c9
 by_cases c10 : 0 < (t170.length : Int)
 {
 rw [if_pos c10] at H
 have c10b0 : decide (0 < (t170.length : Int)) = true := decide_eq_true c10
 have c10b1 : decide (0 < t170.length) = true := decide_eq_true (by omega)
 clear c10
 by_cases c11 : (rd t170 0) = 1
 {
 rw [if_pos c11] at H
 have c11b0 : ((rd t170 0) == 1) = true := beq_iff_eq.mpr c11
 have c11b1 : ((rd t170 0) != 1) = false := bne_eq_false_iff_eq.mpr c11
 clear c11
 by_cases c12 : 1 < (t170.length : Int)
 {
 rw [if_pos c12] at H
 have c12b0 : decide (1 < (t170.length : Int)) = true := decide_eq_true c12
 have c12b1 : decide (1 < t170.length) = true := decide_eq_true (by omega)
 clear c12
 by_cases c13 : (rd t170 1) = 0
 {
 rw [if_pos c13] at H
 have c13b0 : ((rd t170 1) == 0) = true := beq_iff_eq.mpr c13
 have c13b1 : ((rd t170 1) != 0) = false := bne_eq_false_iff_eq.mpr c13
 clear c13
 replace H := Option.bind_eq_some_iff.mp H
 obtain ⟨t179, A140, H⟩ := H
 replace H : (if t179 = true then (none) else ((swap_Apart.f k 7 0 0 0 7 1 0 0).bind fun t180 => (some t180))) = some r := H
 have A14 := Aside0.mk A140
 clear A140
 by_cases c15 : t179 = true
 {
 subst c15
 have H1 : (none) = some r := by rw [if_pos rfl] at H; exact H
 clear H
 have H := H1
 clear H1
 exact absurd H (by simp)
 }
 {
 replace c15 := Bool.eq_false_iff.mpr c15
 subst c15
 have H1 : ((swap_Apart.f k 7 0 0 0 7 1 0 0).bind fun t180 => (some t180)) = some r := by rw [if_neg (show ¬ (false = true) by decide)] at H; exact H
 clear H
 have H := H1
 clear H1
 replace H := Option.bind_eq_some_iff.mp H
 obtain ⟨t180, A160, H⟩ := H
 replace H : (some t180) = some r := H
 have A16 := Aside0.mk A160
 clear A160
 obtain rfl := Option.some.inj H
 go_enter Try.func12, Try.ntmps12
 go_wp2_with (first | ((with_reducible refine gate_dst (N := 5) rfl ?_); (try (refine gate_guard (by rfl) ?_; dsimp only)); refine Kd.R_lit k33 _ 33 ?hg (N := 5) ?hd (xs := ([(⟨8, 0, 1, 0⟩ : S33), (⟨7, 2, 1, 0⟩ : S33), (⟨3, 1, 2, 2⟩ : S33)] : List (S33))) (inner := [.int .u8 8, .int .i64 0, .int .i64 1, .int .i64 0, .int .u8 7, .int .i64 2, .int .i64 1, .int .i64 0, .int .u8 3, .int .i64 1, .int .i64 2, .int .i64 2]) (ok := fun _ => True) (okp := fun _ => True) ?hr ?hp (fun _ hk => hk) trivial (Below.refl _ _) (Nat.le_refl _) (by simp) ?_; (case hd => rfl); (case hg => rfl); (case hr => first | (go_simp; done) | (go_simp; rfl)); (case hp => exact (Reps.c4 (show Kd.M k33 _ _ _ (⟨8, 0, 1, 0⟩ : S33) [.int .u8 8, .int .i64 0, .int .i64 1, .int .i64 0] from (k33_mkM _ _ _ (⟨8, 0, 1, 0⟩ : S33) )) (Reps.c4 (show Kd.M k33 _ _ _ (⟨7, 2, 1, 0⟩ : S33) [.int .u8 7, .int .i64 2, .int .i64 1, .int .i64 0] from (k33_mkM _ _ _ (⟨7, 2, 1, 0⟩ : S33) )) (Reps.c4 (show Kd.M k33 _ _ _ (⟨3, 1, 2, 2⟩ : S33) [.int .u8 3, .int .i64 1, .int .i64 2, .int .i64 2] from (k33_mkM _ _ _ (⟨3, 1, 2, 2⟩ : S33) )) (Reps.none _ _))))); intro v165 w17 ho18 hb hg_ hnew_; clear hg_ hnew_; (first | rw [← Ny164.out] at ho18 | (simp only [Int.reduceToNat] at ho18; rw [← Ny164.out] at ho18)); have n0_ := Aside0.mk (Kd.R_lower ho18 (below_size (by repeat (first | (with_reducible first | exact HB.out | apply below_alloc | apply pw_below_drewN | apply below_drew1) | exact HB.out)))); have n1_ := Aside0.mk (below_step (by repeat (first | (with_reducible first | exact HB.out | apply below_alloc | apply pw_below_drewN | apply below_drew1) | exact HB.out)) hb); clear HB; have HO166 := n0_; have HB := n1_; clear n0_ n1_; clear hb ho18; obtain ⟨Ao19, co19, eo19⟩ := Kd.R_slice HO166.out; subst eo19) | ((with_reducible refine gate_callee (f := 9) rfl ?_); refine goesL_ (some 6) rfl rfl Try.func9 (by kernel_rfl) rfl #[.slice Ao19 y164.length co19] rfl (by (try simp only [List.map_toArray, List.map_cons, List.map_nil]); first | done | rfl | (simp only [List.length_drop, List.length_take]; rfl)) ?_; (with_reducible refine (swap_Code.calls k _ _ y164 t167 t170 _ ?side1 ?side2 A1.out).mono ?_); (case side1 => repeat (first | exact (Kd.R_reads' HO166.out).2.2 | (with_reducible refine Kd.C_alloc ?_ _) | (with_reducible refine Kd.C_drewN ?_ _) | (with_reducible refine Kd.C_drew ?_))); (case side2 => exact (Kd.R_reads' HO166.out).2.1); rintro e w20 ⟨v168, v171, rfl, ho0, ho1, hb⟩; refine ⟨_, rfl, ?_⟩; have n0_ := Aside0.mk (Kd.R_elder' (by (with_reducible repeat (first | apply Kd.R_alloc | apply Kd.R_drewN | apply Kd.R_drew)); exact HO166.out) (Kd.R_base ho0) hb); have n1_ := Aside0.mk (Kd.R_lower (Kd.R_new' ho0 (Kd.R_lt (by (with_reducible repeat (first | apply Kd.R_alloc | apply Kd.R_drewN | apply Kd.R_drew)); exact HO166.out))) (below_size (by repeat (first | (with_reducible first | exact HB.out | apply below_alloc | apply pw_below_drewN | apply below_drew1) | exact HB.out)))); have n2_ := Aside0.mk (Kd.R_lower ho1 (below_size (by repeat (first | (with_reducible first | exact HB.out | apply below_alloc | apply pw_below_drewN | apply below_drew1) | exact HB.out)))); have n3_ := Aside0.mk (below_step (by repeat (first | (with_reducible first | exact HB.out | apply below_alloc | apply pw_below_drewN | apply below_drew1) | exact HB.out)) hb); clear HO166; clear HB; have HO166 := n0_; have HO169 := n1_; have HO172 := n2_; have HB := n3_; clear n0_ n1_ n2_ n3_; (try clear hb); (try clear hb2); (try clear hk); (try clear hi); (try clear ho0); (try clear ho1)) | ((with_reducible refine gate_dst (N := 1) rfl ?_); (try (refine gate_guard (by rfl) ?_; dsimp only)); refine box_event ?hg (N := 1) ?hd (cs := #[.slice none 0 0, .slice none 0 0]) (t := 30) ?hr ?_; (case hd => rfl); (case hg => rfl); (case hr => first | (go_simp; done) | (go_simp; rfl)); intro gb173 hg w21 hbox hb; have n0_ := Aside0.mk (Kd.R_below (by (with_reducible repeat (first | apply Kd.R_alloc | apply Kd.R_drewN | apply Kd.R_drew)); exact HO166.out) hb); have n1_ := Aside0.mk (Kd.R_below (by (with_reducible repeat (first | apply Kd.R_alloc | apply Kd.R_drewN | apply Kd.R_drew)); exact HO169.out) hb); have n2_ := Aside0.mk (Kd.R_below (by (with_reducible repeat (first | apply Kd.R_alloc | apply Kd.R_drewN | apply Kd.R_drew)); exact HO172.out) hb); have n3_ := Aside0.mk (below_step (by repeat (first | (with_reducible first | exact HB.out | apply below_alloc | apply pw_below_drewN | apply below_drew1) | exact HB.out)) hb); have n4_ := Aside0.mk (hbox); have n5_ := Aside0.mk ((by rw [hg]; exact (below_size (by repeat (first | (with_reducible first | exact HB.out | apply below_alloc | apply pw_below_drewN | apply below_drew1) | exact HB.out))) : w.heap.size ≤ gb173)); have n6_ := Aside0.mk ((by rw [hg]; exact (below_size (by repeat (first | (with_reducible first | exact HB.out | apply below_alloc | apply pw_below_drewN | apply below_drew1) | exact HB.out))) : w.heap.size ≤ gb173)); clear HO166; clear HO169; clear HO172; clear HB; have HO166 := n0_; have HO169 := n1_; have HO172 := n2_; have HB := n3_; have BK173 := n4_; have GW173 := n5_; have GE173 := n6_; clear n0_ n1_ n2_ n3_ n4_ n5_ n6_; clear hb hbox hg; obtain ⟨Ao22, co22, eo22⟩ := Kd.R_slice HO169.out; subst eo22; have hcz23_0 : w21.cell? ⟨gb173, 0, none⟩ = some (.slice none 0 0) := (blk_cell BK173.out 0).trans rfl; have hcz23_1 : w21.cell? ⟨gb173, 1, none⟩ = some (.slice none 0 0) := (blk_cell BK173.out 1).trans rfl; have hfz23_0 := blk_frozen BK173.out 0; have hfz23_1 := blk_frozen BK173.out 1; obtain ⟨Ao24, co24, eo24⟩ := Kd.R_slice HO172.out; subst eo24; have p174 : 0 ≤ (0 : Int) := (by omega); have q174 : 0 < (t167.length : Int) := of_decide_eq_true (by first | (with_reducible assumption) | assumption); obtain ⟨ad174, e174, hx174_0, hx174_1, hx174_2, hx174_3⟩ := at_T33 (Kd.R_reads' HO169.out).2.2 0 p174 q174; cases e174; have qi174 : (0 < t167.length) = True := eq_true (by omega); (try rw [show ((0 : Int)).toNat = 0 from rfl] at hx174_0); (try rw [show 0 * 4 = 0 from rfl] at hx174_0); (try rw [Addr.add_zero'] at hx174_0); (try rw [show ((0 : Int)).toNat = 0 from rfl] at hx174_1); (try rw [show 0 * 4 = 0 from rfl] at hx174_1); (try rw [Addr.add_zero'] at hx174_1); (try rw [show ((0 : Int)).toNat = 0 from rfl] at hx174_2); (try rw [show 0 * 4 = 0 from rfl] at hx174_2); (try rw [Addr.add_zero'] at hx174_2); (try rw [show ((0 : Int)).toNat = 0 from rfl] at hx174_3); (try rw [show 0 * 4 = 0 from rfl] at hx174_3); (try rw [Addr.add_zero'] at hx174_3); have hn174_0 : ad174.block ≠ gb173 := Kd.own_blk (Kd.R_ne HO169.out BK173.out (by decide)); have hn174_1 : ad174.block ≠ gb173 := Kd.own_blk (Kd.R_ne HO169.out BK173.out (by decide)); replace hx174_0 := (cell_far (p := ⟨gb173, 0, none⟩) (by first | (rw [add_block]; exact hn174_0) | (show (Addr.add _ _).block ≠ _; rw [add_block]; exact hn174_0) | exact hn174_0) (.slice (some ad174) t167.length co22)).trans hx174_0; replace hx174_1 := (cell_far (p := ⟨gb173, 0, none⟩) (by first | (rw [add_block]; exact hn174_0) | (show (Addr.add _ _).block ≠ _; rw [add_block]; exact hn174_0) | exact hn174_0) (.slice (some ad174) t167.length co22)).trans hx174_1; replace hx174_2 := (cell_far (p := ⟨gb173, 0, none⟩) (by first | (rw [add_block]; exact hn174_0) | (show (Addr.add _ _).block ≠ _; rw [add_block]; exact hn174_0) | exact hn174_0) (.slice (some ad174) t167.length co22)).trans hx174_2; replace hx174_3 := (cell_far (p := ⟨gb173, 0, none⟩) (by first | (rw [add_block]; exact hn174_0) | (show (Addr.add _ _).block ≠ _; rw [add_block]; exact hn174_0) | exact hn174_0) (.slice (some ad174) t167.length co22)).trans hx174_3; replace hx174_0 := (cell_far (p := ⟨gb173, 1, none⟩) (by first | (rw [add_block]; exact hn174_1) | (show (Addr.add _ _).block ≠ _; rw [add_block]; exact hn174_1) | exact hn174_1) (.slice Ao24 t170.length co24)).trans hx174_0; replace hx174_1 := (cell_far (p := ⟨gb173, 1, none⟩) (by first | (rw [add_block]; exact hn174_1) | (show (Addr.add _ _).block ≠ _; rw [add_block]; exact hn174_1) | exact hn174_1) (.slice Ao24 t170.length co24)).trans hx174_1; replace hx174_2 := (cell_far (p := ⟨gb173, 1, none⟩) (by first | (rw [add_block]; exact hn174_1) | (show (Addr.add _ _).block ≠ _; rw [add_block]; exact hn174_1) | exact hn174_1) (.slice Ao24 t170.length co24)).trans hx174_2; replace hx174_3 := (cell_far (p := ⟨gb173, 1, none⟩) (by first | (rw [add_block]; exact hn174_1) | (show (Addr.add _ _).block ≠ _; rw [add_block]; exact hn174_1) | exact hn174_1) (.slice Ao24 t170.length co24)).trans hx174_3; clear hn174_0; clear hn174_1; replace p174 := eq_true p174; replace q174 := eq_true q174; have p175 : 0 ≤ (1 : Int) := (by omega); have q175 : 1 < (t167.length : Int) := of_decide_eq_true (by first | (with_reducible assumption) | assumption); obtain ⟨ad175, e175, hx175_0, hx175_1, hx175_2, hx175_3⟩ := at_T33 (Kd.R_reads' HO169.out).2.2 1 p175 q175; obtain rfl : ad174 = ad175 := (by injection e175); (try simp only [show (1 : Int).toNat = 1 from rfl, Nat.reduceMul, Nat.reduceEqDiff, Go.Addr.add, ↓reduceIte] at hx175_0); (try simp only [show (1 : Int).toNat = 1 from rfl, Nat.reduceMul, Nat.reduceEqDiff, Go.Addr.add, ↓reduceIte] at hx175_1); (try simp only [show (1 : Int).toNat = 1 from rfl, Nat.reduceMul, Nat.reduceEqDiff, Go.Addr.add, ↓reduceIte] at hx175_2); (try simp only [show (1 : Int).toNat = 1 from rfl, Nat.reduceMul, Nat.reduceEqDiff, Go.Addr.add, ↓reduceIte] at hx175_3); have qi175 : (1 < t167.length) = True := eq_true (by omega); (try rw [show ((1 : Int)).toNat = 1 from rfl] at hx175_0); (try rw [show 1 * 4 = 4 from rfl] at hx175_0); (try rw [show ((1 : Int)).toNat = 1 from rfl] at hx175_1); (try rw [show 1 * 4 = 4 from rfl] at hx175_1); (try rw [show ((1 : Int)).toNat = 1 from rfl] at hx175_2); (try rw [show 1 * 4 = 4 from rfl] at hx175_2); (try rw [show ((1 : Int)).toNat = 1 from rfl] at hx175_3); (try rw [show 1 * 4 = 4 from rfl] at hx175_3); have hn175_0 : ad174.block ≠ gb173 := Kd.own_blk (Kd.R_ne HO169.out BK173.out (by decide)); have hn175_1 : ad174.block ≠ gb173 := Kd.own_blk (Kd.R_ne HO169.out BK173.out (by decide)); replace hx175_0 := (cell_far (p := ⟨gb173, 0, none⟩) (by first | (rw [add_block]; exact hn175_0) | (show (Addr.add _ _).block ≠ _; rw [add_block]; exact hn175_0) | exact hn175_0) (.slice (some ad174) t167.length co22)).trans hx175_0; replace hx175_1 := (cell_far (p := ⟨gb173, 0, none⟩) (by first | (rw [add_block]; exact hn175_0) | (show (Addr.add _ _).block ≠ _; rw [add_block]; exact hn175_0) | exact hn175_0) (.slice (some ad174) t167.length co22)).trans hx175_1; replace hx175_2 := (cell_far (p := ⟨gb173, 0, none⟩) (by first | (rw [add_block]; exact hn175_0) | (show (Addr.add _ _).block ≠ _; rw [add_block]; exact hn175_0) | exact hn175_0) (.slice (some ad174) t167.length co22)).trans hx175_2; replace hx175_3 := (cell_far (p := ⟨gb173, 0, none⟩) (by first | (rw [add_block]; exact hn175_0) | (show (Addr.add _ _).block ≠ _; rw [add_block]; exact hn175_0) | exact hn175_0) (.slice (some ad174) t167.length co22)).trans hx175_3; replace hx175_0 := (cell_far (p := ⟨gb173, 1, none⟩) (by first | (rw [add_block]; exact hn175_1) | (show (Addr.add _ _).block ≠ _; rw [add_block]; exact hn175_1) | exact hn175_1) (.slice Ao24 t170.length co24)).trans hx175_0; replace hx175_1 := (cell_far (p := ⟨gb173, 1, none⟩) (by first | (rw [add_block]; exact hn175_1) | (show (Addr.add _ _).block ≠ _; rw [add_block]; exact hn175_1) | exact hn175_1) (.slice Ao24 t170.length co24)).trans hx175_1; replace hx175_2 := (cell_far (p := ⟨gb173, 1, none⟩) (by first | (rw [add_block]; exact hn175_1) | (show (Addr.add _ _).block ≠ _; rw [add_block]; exact hn175_1) | exact hn175_1) (.slice Ao24 t170.length co24)).trans hx175_2; replace hx175_3 := (cell_far (p := ⟨gb173, 1, none⟩) (by first | (rw [add_block]; exact hn175_1) | (show (Addr.add _ _).block ≠ _; rw [add_block]; exact hn175_1) | exact hn175_1) (.slice Ao24 t170.length co24)).trans hx175_3; clear hn175_0; clear hn175_1; replace p175 := eq_true p175; replace q175 := eq_true q175; have p176 : 0 ≤ (2 : Int) := (by omega); have q176 : 2 < (t167.length : Int) := of_decide_eq_true (by first | (with_reducible assumption) | assumption); obtain ⟨ad176, e176, hx176_0, hx176_1, hx176_2, hx176_3⟩ := at_T33 (Kd.R_reads' HO169.out).2.2 2 p176 q176; obtain rfl : ad174 = ad176 := (by injection e176); (try simp only [show (2 : Int).toNat = 2 from rfl, Nat.reduceMul, Nat.reduceEqDiff, Go.Addr.add, ↓reduceIte] at hx176_0); (try simp only [show (2 : Int).toNat = 2 from rfl, Nat.reduceMul, Nat.reduceEqDiff, Go.Addr.add, ↓reduceIte] at hx176_1); (try simp only [show (2 : Int).toNat = 2 from rfl, Nat.reduceMul, Nat.reduceEqDiff, Go.Addr.add, ↓reduceIte] at hx176_2); (try simp only [show (2 : Int).toNat = 2 from rfl, Nat.reduceMul, Nat.reduceEqDiff, Go.Addr.add, ↓reduceIte] at hx176_3); have qi176 : (2 < t167.length) = True := eq_true (by omega); (try rw [show ((2 : Int)).toNat = 2 from rfl] at hx176_0); (try rw [show 2 * 4 = 8 from rfl] at hx176_0); (try rw [show ((2 : Int)).toNat = 2 from rfl] at hx176_1); (try rw [show 2 * 4 = 8 from rfl] at hx176_1); (try rw [show ((2 : Int)).toNat = 2 from rfl] at hx176_2); (try rw [show 2 * 4 = 8 from rfl] at hx176_2); (try rw [show ((2 : Int)).toNat = 2 from rfl] at hx176_3); (try rw [show 2 * 4 = 8 from rfl] at hx176_3); have hn176_0 : ad174.block ≠ gb173 := Kd.own_blk (Kd.R_ne HO169.out BK173.out (by decide)); have hn176_1 : ad174.block ≠ gb173 := Kd.own_blk (Kd.R_ne HO169.out BK173.out (by decide)); replace hx176_0 := (cell_far (p := ⟨gb173, 0, none⟩) (by first | (rw [add_block]; exact hn176_0) | (show (Addr.add _ _).block ≠ _; rw [add_block]; exact hn176_0) | exact hn176_0) (.slice (some ad174) t167.length co22)).trans hx176_0; replace hx176_1 := (cell_far (p := ⟨gb173, 0, none⟩) (by first | (rw [add_block]; exact hn176_0) | (show (Addr.add _ _).block ≠ _; rw [add_block]; exact hn176_0) | exact hn176_0) (.slice (some ad174) t167.length co22)).trans hx176_1; replace hx176_2 := (cell_far (p := ⟨gb173, 0, none⟩) (by first | (rw [add_block]; exact hn176_0) | (show (Addr.add _ _).block ≠ _; rw [add_block]; exact hn176_0) | exact hn176_0) (.slice (some ad174) t167.length co22)).trans hx176_2; replace hx176_3 := (cell_far (p := ⟨gb173, 0, none⟩) (by first | (rw [add_block]; exact hn176_0) | (show (Addr.add _ _).block ≠ _; rw [add_block]; exact hn176_0) | exact hn176_0) (.slice (some ad174) t167.length co22)).trans hx176_3; replace hx176_0 := (cell_far (p := ⟨gb173, 1, none⟩) (by first | (rw [add_block]; exact hn176_1) | (show (Addr.add _ _).block ≠ _; rw [add_block]; exact hn176_1) | exact hn176_1) (.slice Ao24 t170.length co24)).trans hx176_0; replace hx176_1 := (cell_far (p := ⟨gb173, 1, none⟩) (by first | (rw [add_block]; exact hn176_1) | (show (Addr.add _ _).block ≠ _; rw [add_block]; exact hn176_1) | exact hn176_1) (.slice Ao24 t170.length co24)).trans hx176_1; replace hx176_2 := (cell_far (p := ⟨gb173, 1, none⟩) (by first | (rw [add_block]; exact hn176_1) | (show (Addr.add _ _).block ≠ _; rw [add_block]; exact hn176_1) | exact hn176_1) (.slice Ao24 t170.length co24)).trans hx176_2; replace hx176_3 := (cell_far (p := ⟨gb173, 1, none⟩) (by first | (rw [add_block]; exact hn176_1) | (show (Addr.add _ _).block ≠ _; rw [add_block]; exact hn176_1) | exact hn176_1) (.slice Ao24 t170.length co24)).trans hx176_3; clear hn176_0; clear hn176_1; replace p176 := eq_true p176; replace q176 := eq_true q176; have p177 : 0 ≤ (0 : Int) := (by omega); have q177 : 0 < (t170.length : Int) := of_decide_eq_true (by first | (with_reducible assumption) | assumption); obtain ⟨ad177, e177, hx177_0⟩ := Kd.at_int (Kd.R_reads' HO172.out).2.2 0 p177 q177; cases e177; have qi177 : (0 < t170.length) = True := eq_true (by omega); (try rw [show ((0 : Int)).toNat = 0 from rfl] at hx177_0); (try rw [Addr.add_zero'] at hx177_0); have hn177_0 : ad177.block ≠ gb173 := Kd.own_blk (Kd.R_ne HO172.out BK173.out (by decide)); have hn177_1 : ad177.block ≠ gb173 := Kd.own_blk (Kd.R_ne HO172.out BK173.out (by decide)); replace hx177_0 := (cell_far (p := ⟨gb173, 0, none⟩) (by first | (rw [add_block]; exact hn177_0) | (show (Addr.add _ _).block ≠ _; rw [add_block]; exact hn177_0) | exact hn177_0) (.slice (some ad174) t167.length co22)).trans hx177_0; replace hx177_0 := (cell_far (p := ⟨gb173, 1, none⟩) (by first | (rw [add_block]; exact hn177_1) | (show (Addr.add _ _).block ≠ _; rw [add_block]; exact hn177_1) | exact hn177_1) (.slice (some ad177) t170.length co24)).trans hx177_0; clear hn177_0; clear hn177_1; replace p177 := eq_true p177; replace q177 := eq_true q177; have p178 : 0 ≤ (1 : Int) := (by omega); have q178 : 1 < (t170.length : Int) := of_decide_eq_true (by first | (with_reducible assumption) | assumption); obtain ⟨ad178, e178, hx178_0⟩ := Kd.at_int (Kd.R_reads' HO172.out).2.2 1 p178 q178; obtain rfl : ad177 = ad178 := (by injection e178); (try simp only [show (1 : Int).toNat = 1 from rfl, Nat.reduceMul, Nat.reduceEqDiff, Go.Addr.add, ↓reduceIte] at hx178_0); have qi178 : (1 < t170.length) = True := eq_true (by omega); (try rw [show ((1 : Int)).toNat = 1 from rfl] at hx178_0); have hn178_0 : ad177.block ≠ gb173 := Kd.own_blk (Kd.R_ne HO172.out BK173.out (by decide)); have hn178_1 : ad177.block ≠ gb173 := Kd.own_blk (Kd.R_ne HO172.out BK173.out (by decide)); replace hx178_0 := (cell_far (p := ⟨gb173, 0, none⟩) (by first | (rw [add_block]; exact hn178_0) | (show (Addr.add _ _).block ≠ _; rw [add_block]; exact hn178_0) | exact hn178_0) (.slice (some ad174) t167.length co22)).trans hx178_0; replace hx178_0 := (cell_far (p := ⟨gb173, 1, none⟩) (by first | (rw [add_block]; exact hn178_1) | (show (Addr.add _ _).block ≠ _; rw [add_block]; exact hn178_1) | exact hn178_1) (.slice (some ad177) t170.length co24)).trans hx178_0; clear hn178_0; clear hn178_1; replace p178 := eq_true p178; replace q178 := eq_true q178) | (go_at_call 17; (with_reducible refine (swap_Apart.calls k 8 0 0 0 7 1 0 0 false _ A14.out).mono ?_); rintro e w25 ⟨rfl, hb⟩; have n0_ := Aside0.mk (Kd.R_below (by (with_reducible repeat (first | apply Kd.R_alloc | apply Kd.R_drewN | apply Kd.R_drew)); exact (Kd.R_mono (Kd.R_far (p := ⟨gb173, 1, none⟩) (Kd.R_far (p := ⟨gb173, 0, none⟩) (Kd.R_types HO166.out BK173.out (by decide)) (fun _ hk => hk.2) (.slice (some ad174) t167.length co22)) (fun _ hk => hk.2) (.slice (some ad177) t170.length co24)) (fun _ h_ => h_.1))) hb); have n1_ := Aside0.mk (Kd.R_below (by (with_reducible repeat (first | apply Kd.R_alloc | apply Kd.R_drewN | apply Kd.R_drew)); exact (Kd.R_mono (Kd.R_far (p := ⟨gb173, 1, none⟩) (Kd.R_far (p := ⟨gb173, 0, none⟩) (Kd.R_types HO169.out BK173.out (by decide)) (fun _ hk => hk.2) (.slice (some ad174) t167.length co22)) (fun _ hk => hk.2) (.slice (some ad177) t170.length co24)) (fun _ h_ => h_.1))) hb); have n2_ := Aside0.mk (Kd.R_below (by (with_reducible repeat (first | apply Kd.R_alloc | apply Kd.R_drewN | apply Kd.R_drew)); exact (Kd.R_mono (Kd.R_far (p := ⟨gb173, 1, none⟩) (Kd.R_far (p := ⟨gb173, 0, none⟩) (Kd.R_types HO172.out BK173.out (by decide)) (fun _ hk => hk.2) (.slice (some ad174) t167.length co22)) (fun _ hk => hk.2) (.slice (some ad177) t170.length co24)) (fun _ h_ => h_.1))) hb); have n3_ := Aside0.mk (blk_below (g := gb173) (o := .cells #[.slice (some ad174) t167.length co22, .slice (some ad177) t170.length co24] 30 (0, 0)) (by (with_reducible repeat (first | refine blk_drewN ?_ _ | refine blk_drew ?_ | refine blk_alloc ?_ _)); refine blk_put (cs := #[.slice (some ad174) t167.length co22, .slice none 0 0]) ?_ 1 _ rfl; (with_reducible repeat (first | refine blk_drewN ?_ _ | refine blk_drew ?_ | refine blk_alloc ?_ _)); refine blk_put (cs := #[.slice none 0 0, .slice none 0 0]) ?_ 0 _ rfl; (with_reducible repeat (first | refine blk_drewN ?_ _ | refine blk_drew ?_ | refine blk_alloc ?_ _)); exact BK173.out) hb); have n4_ := Aside0.mk (below_step (by repeat (first | (with_reducible first | exact HB.out | apply below_alloc | apply pw_below_drewN | apply below_drew1 | refine below_set ?_ GE173.out) | exact HB.out)) hb); clear HO166; clear HO169; clear HO172; clear BK173; clear HB; have HO166 := n0_; have HO169 := n1_; have HO172 := n2_; have BK173 := n3_; have HB := n4_; clear n0_ n1_ n2_ n3_ n4_; (try clear hb); (try clear hb2); (try clear hk); (try clear hi)) | (go_at_call 17; (with_reducible refine (swap_Apart.calls k 7 0 0 0 7 1 0 0 t180 _ A16.out).mono ?_); rintro e w26 ⟨rfl, hb⟩; have n0_ := Aside0.mk (Kd.R_below (by (with_reducible repeat (first | apply Kd.R_alloc | apply Kd.R_drewN | apply Kd.R_drew)); exact HO166.out) hb); have n1_ := Aside0.mk (Kd.R_below (by (with_reducible repeat (first | apply Kd.R_alloc | apply Kd.R_drewN | apply Kd.R_drew)); exact HO169.out) hb); have n2_ := Aside0.mk (Kd.R_below (by (with_reducible repeat (first | apply Kd.R_alloc | apply Kd.R_drewN | apply Kd.R_drew)); exact HO172.out) hb); have n3_ := Aside0.mk (blk_below (g := gb173) (o := .cells #[.slice (some ad174) t167.length co22, .slice (some ad177) t170.length co24] 30 (0, 0)) (by (with_reducible repeat (first | refine blk_drewN ?_ _ | refine blk_drew ?_ | refine blk_alloc ?_ _)); exact BK173.out) hb); have n4_ := Aside0.mk (below_step (by repeat (first | (with_reducible first | exact HB.out | apply below_alloc | apply pw_below_drewN | apply below_drew1 | refine below_set ?_ GE173.out) | exact HB.out)) hb); clear HO166; clear HO169; clear HO172; clear BK173; clear HB; have HO166 := n0_; have HO169 := n1_; have HO172 := n2_; have BK173 := n3_; have HB := n4_; clear n0_ n1_ n2_ n3_ n4_; (try clear hb); (try clear hb2); (try clear hk); (try clear hi)))
 go_ret
 exact ⟨by first | rfl | (simp [errW_none, errW_some] <;> rfl) | (simp [*, errW_none, errW_some] <;> rfl), by repeat (first | (with_reducible first | exact HB.out | apply below_alloc | apply pw_below_drewN | apply below_drew1 | refine below_set ?_ GE173.out) | exact HB.out)⟩
 }
 }
 {
 rw [if_neg c13] at H
 exact absurd H (by simp)
 }
 }
 {
 rw [if_neg c12] at H
 exact absurd H (by simp)
 }
 }
 {
 rw [if_neg c11] at H
 exact absurd H (by simp)
 }
 }
 {
 rw [if_neg c10] at H
 exact absurd H (by simp)
 }
 }
 {
 rw [if_neg c9] at H
 exact absurd H (by simp)
 }
 }
 {
 rw [if_neg c8] at H
 exact absurd H (by simp)
 }
 }
 {
 rw [if_neg c7] at H
 exact absurd H (by simp)
 }
 }
 {
 rw [if_neg c6] at H
 exact absurd H (by simp)
 }
 }
 {
 rw [if_neg c5] at H
 exact absurd H (by simp)
 }
 }
 {
 rw [if_neg c4] at H
 exact absurd H (by simp)
 }
 }
 {
 rw [if_neg c3] at H
 exact absurd H (by simp)
 }
 }
 {
 rw [if_neg c2] at H
 exact absurd H (by simp)
 }
/-! ### interlockref01_Same: function 15 -/
def interlockref01_Same.l0 : Nat → List Int → List Int → Int → Option (Bool)
  | 0, _, _, _ => none
  | k + 1, x0, x1, x5 => if x5 < (x0.length : Int) then (if 0 ≤ x5 then (if x5 < (x1.length : Int) then (if (rd x0 x5) = (rd x1 x5) then (interlockref01_Same.l0 k x0 x1 (wrap64 (x5 + 1))) else (some false)) else (none)) else (none)) else (some true)
def interlockref01_Same.f (k : Nat) (l0 : List Int) (l1 : List Int) : Option (Bool) := if (l0.length : Int) = (l1.length : Int) then (interlockref01_Same.l0 k l0 l1 0) else (some false)
theorem interlockref01_Same.mono_l : ∀ k, (∀ y0 y1 y2, LeO (interlockref01_Same.l0 k y0 y1 y2) (interlockref01_Same.l0 (k + 1) y0 y1 y2))
  | 0 => fun _ _ _ r h => by simp [interlockref01_Same.l0] at h
  | k + 1 => by
    have ih0 := interlockref01_Same.mono_l k
    · intro y0 y1 y2
      unfold interlockref01_Same.l0
      repeat' first
      | (with_reducible exact ih0 _ _ _)
      | (with_reducible exact LeO.refl _)
      | (with_reducible exact LeO.none _)
      | (with_reducible refine LeO.ite ?_ ?_)
      | (with_reducible refine LeO.bind ?_ (fun _ => ?_))
      | exact ih0 _ _ _
      | exact LeO.none _
      | refine LeO.ite ?_ ?_
      | refine LeO.bind ?_ (fun _ => ?_)
theorem interlockref01_Same.mono : ∀ a0 a1 k, LeO (interlockref01_Same.f k a0 a1) (interlockref01_Same.f (k + 1) a0 a1) := by
  intro a0 a1 k
  have ih0 := interlockref01_Same.mono_l k
  unfold interlockref01_Same.f
  repeat' first
      | (with_reducible exact ih0 _ _ _)
      | (with_reducible exact LeO.refl _)
      | (with_reducible exact LeO.none _)
      | (with_reducible refine LeO.ite ?_ ?_)
      | (with_reducible refine LeO.bind ?_ (fun _ => ?_))
      | exact ih0 _ _ _
      | exact LeO.none _
      | refine LeO.ite ?_ ?_
      | refine LeO.bind ?_ (fun _ => ?_)
set_option maxHeartbeats 8000000 in
set_option maxRecDepth 100000 in
theorem interlockref01_Same.calls (k : Nat) (A0 : Option Addr) (c0 : Nat) (l0 : List Int) (A1 : Option Addr) (c1 : Nat) (l1 : List Int) (r : Bool) (w : World) (hr0 : Kd.C (Kd.int .i64) w A0 l0.length l0) (hc0 : l0.length ≤ c0) (hr1 : Kd.C (Kd.int .i64) w A1 l1.length l1) (hc1 : l1.length ≤ c1) (h : interlockref01_Same.f k l0 l1 = some r) :
    Calls Try.prog 15 #[.slice A0 l0.length c0, .slice A1 l1.length c1] w fun e w' => e = .returned (.bool r) ∧ Drawn0 w w' := by
  have HR0 := Aside0.mk hr0
  have HC0 := Aside0.mk hc0
  clear hr0 hc0
  have HR1 := Aside0.mk hr1
  have HC1 := Aside0.mk hc1
  clear hr1 hc1
  have H : (if (l0.length : Int) = (l1.length : Int) then (interlockref01_Same.l0 k l0 l1 0) else (some false)) = some r := h
  clear h
  by_cases c3 : (l0.length : Int) = (l1.length : Int)
  · rw [if_pos c3] at H
    have c3b0 : ((l0.length : Int) == (l1.length : Int)) = true := beq_iff_eq.mpr c3
    have c3b1 : ((l0.length : Int) != (l1.length : Int)) = false := bne_eq_false_iff_eq.mpr c3
    have c3b2 : (l0.length == l1.length) = true := by first | simpa using c3 | (simp at c3 ⊢; omega)
    clear c3
    have H' := Aside0.mk H
    clear H
    go_enter Try.func15, Try.ntmps15
    go_wp2
    repeat (go_quiet (fail); try go_wp2)
    go_loopg [5] k (fun kq v5 w' => ∃ (x5_1 : Int), v5 = .int .i64 x5_1 ∧ Aside0 (interlockref01_Same.l0 kq l0 l1 x5_1 = some r) ∧ Aside0 (kq ≤ k) ∧ Drawn0 w w')
    case atStart => exact ⟨(0), (by first | rfl | (simp; done) | (simp [*]; done)), H', ⟨Nat.le_refl _⟩, by repeat (first | exact Drawn0.refl _ | apply Drawn0.step)⟩
    case round =>
      clear H'
      try clear c1
      try clear p2
      try clear c3
      try clear c3b0
      try clear c3b1
      try clear c3b2
      obtain ⟨x5_1, rfl, HA, HK1, ⟨m1, rfl⟩⟩ := hrel
      cases gk with
      | zero => exact absurd HA.out (by simp [interlockref01_Same.l0])
      | succ k1 =>
        have H := HA.out
        clear HA
        simp only [interlockref01_Same.l0] at H
        by_cases c4 : x5_1 < (l0.length : Int)
        · rw [if_pos c4] at H
          have c4b0 : decide (x5_1 < (l0.length : Int)) = true := decide_eq_true c4
          clear c4
          by_cases c5 : 0 ≤ x5_1
          · rw [if_pos c5] at H
            have c5b0 : decide (0 ≤ x5_1) = true := decide_eq_true c5
            clear c5
            by_cases c6 : x5_1 < (l1.length : Int)
            · rw [if_pos c6] at H
              have c6b0 : decide (x5_1 < (l1.length : Int)) = true := decide_eq_true c6
              clear c6
              by_cases c7 : (rd l0 x5_1) = (rd l1 x5_1)
              · rw [if_pos c7] at H
                have c7b0 : ((rd l0 x5_1) == (rd l1 x5_1)) = true := beq_iff_eq.mpr c7
                have c7b1 : ((rd l0 x5_1) != (rd l1 x5_1)) = false := bne_eq_false_iff_eq.mpr c7
                clear c7
                have H' := Aside0.mk H
                clear H
                have p181 : 0 ≤ (x5_1 : Int) := of_decide_eq_true (by first | (with_reducible assumption) | assumption)
                have q181 : x5_1 < (l0.length : Int) := of_decide_eq_true (by first | (with_reducible assumption) | assumption)
                obtain ⟨ad181, e181, hx181_0⟩ := Kd.at_int HR0.out x5_1 p181 q181
                cases e181
                replace p181 := eq_true p181
                replace q181 := eq_true q181
                have p182 : 0 ≤ (x5_1 : Int) := of_decide_eq_true (by first | (with_reducible assumption) | assumption)
                have q182 : x5_1 < (l1.length : Int) := of_decide_eq_true (by first | (with_reducible assumption) | assumption)
                obtain ⟨ad182, e182, hx182_0⟩ := Kd.at_int HR1.out x5_1 p182 q182
                cases e182
                replace p182 := eq_true p182
                replace q182 := eq_true q182
                go_wp2
                repeat (go_quiet (fail); try go_wp2)
                go_roundg k1
                case measure => have := HK1.out; omega
                case rel => exact ⟨(wrap64 (x5_1 + 1)), (by first | rfl | (simp; done) | (simp [*]; done)), H', ⟨by have := HK1.out; omega⟩, by repeat (first | exact Drawn0.refl _ | apply Drawn0.step)⟩
              · rw [if_neg c7] at H
                have c7b0 : ((rd l0 x5_1) == (rd l1 x5_1)) = false := beq_eq_false_iff_ne.mpr c7
                have c7b1 : ((rd l0 x5_1) != (rd l1 x5_1)) = true := bne_iff_ne.mpr c7
                obtain rfl := Option.some.inj H
                have p181 : 0 ≤ (x5_1 : Int) := of_decide_eq_true (by first | (with_reducible assumption) | assumption)
                have q181 : x5_1 < (l0.length : Int) := of_decide_eq_true (by first | (with_reducible assumption) | assumption)
                obtain ⟨ad181, e181, hx181_0⟩ := Kd.at_int HR0.out x5_1 p181 q181
                cases e181
                replace p181 := eq_true p181
                replace q181 := eq_true q181
                have p182 : 0 ≤ (x5_1 : Int) := of_decide_eq_true (by first | (with_reducible assumption) | assumption)
                have q182 : x5_1 < (l1.length : Int) := of_decide_eq_true (by first | (with_reducible assumption) | assumption)
                obtain ⟨ad182, e182, hx182_0⟩ := Kd.at_int HR1.out x5_1 p182 q182
                cases e182
                replace p182 := eq_true p182
                replace q182 := eq_true q182
                go_wp2
                repeat (go_quiet (fail); try go_wp2)
                go_ret
                exact ⟨by first | rfl | (simp; done) | (simp [*]; done), by repeat (first | exact Drawn0.refl _ | apply Drawn0.step)⟩
            · rw [if_neg c6] at H
              exact absurd H (by simp)
          · rw [if_neg c5] at H
            exact absurd H (by simp)
        · rw [if_neg c4] at H
          have c4b0 : decide (x5_1 < (l0.length : Int)) = false := decide_eq_false c4
          clear c4
          obtain rfl := Option.some.inj H
          go_wp2
          repeat (go_quiet (fail); try go_wp2)
          go_ret
          exact ⟨by first | rfl | (simp; done) | (simp [*]; done), by repeat (first | exact Drawn0.refl _ | apply Drawn0.step)⟩
  · rw [if_neg c3] at H
    have c3b0 : ((l0.length : Int) == (l1.length : Int)) = false := beq_eq_false_iff_ne.mpr c3
    have c3b1 : ((l0.length : Int) != (l1.length : Int)) = true := bne_iff_ne.mpr c3
    have c3b2 : (l0.length == l1.length) = false := by first | simpa using c3 | (simp at c3 ⊢; omega)
    obtain rfl := Option.some.inj H
    go_enter Try.func15, Try.ntmps15
    go_wp2
    repeat (go_quiet (fail); try go_wp2)
    go_ret
    exact ⟨by first | rfl | (simp; done) | (simp [*]; done), by repeat (first | exact Drawn0.refl _ | apply Drawn0.step)⟩

end Go.Proofs.Yticdodbnjlnjlaa.P
