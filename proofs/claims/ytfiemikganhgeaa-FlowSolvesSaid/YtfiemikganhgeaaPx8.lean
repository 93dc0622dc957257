-- written by this project's xprint.py (a turn of the kit's printer; its own texts among them)
import Derived.Test.YtfiemikganhgeaaPx0
import Derived.Test.YtfiemikganhgeaaPx4
import Derived.Test.YtfiemikganhgeaaPx7
namespace Go.Proofs.Ytfiemikganhgeaa.P
open Go.RowKit Go.Proofs.YtfiemikganhgeaaW.PrintWords Go.Proofs.YtfiemikganhgeaaW.PrintLast Go.Proofs.YtfiemikganhgeaaW.PrintMore
attribute [local go_sem] max2_int min2_int max_two min_two max_three min_three max_four min_four   -- for this text's walks alone
attribute [local irreducible] Calls
set_option linter.unusedVariables false
set_option linter.unusedSimpArgs false

/-! ### interlocklaw10_Graph: function 9 -/
def interlocklaw10_Graph.l0 : Nat → List Int → Int → List (List Int) → Int → Option ((List (List Int)))
  | 0, _, _, _, _ => none
  | k + 1, x1, x5, x6, x7 => if (wrap64 (x7 + 1)) < (x1.length : Int) then (if x7 < 50 then (if 0 ≤ x7 then (if x7 < (x1.length : Int) then (if x5 = 0 then (none) else (if 0 ≤ (Int.tmod (wrap64 (rd x1 x7)) x5) then (if (Int.tmod (wrap64 (rd x1 x7)) x5) < (x6.length : Int) then (if 0 ≤ (wrap64 (x7 + 1)) then (if (wrap64 (x5 + 2)) = 0 then (none) else (if (rd_L1 x6 (Int.tmod (wrap64 (rd x1 x7)) x5)).length < 17592186044416 then (interlocklaw10_Graph.l0 k x1 x5 (x6.set ((Int.tmod (wrap64 (rd x1 x7)) x5) : Int).toNat ((rd_L1 x6 (Int.tmod (wrap64 (rd x1 x7)) x5)) ++ [wrap64 ((wrap64 ((Int.tmod (wrap64 (rd x1 (wrap64 (x7 + 1)))) (wrap64 (x5 + 2))) - 1)) + ((Int.tdiv (rd x1 x7) 240) % 256))])) (wrap64 (x7 + 2))) else (none))) else (none)) else (none)) else (none))) else (none)) else (none)) else (some x6)) else (some x6)
def interlocklaw10_Graph.f (k : Nat) (a0 : Int) (l1 : List Int) : Option ((List (List Int))) := if 0 ≤ (wrap64 (1 + (wrap64 (Int.tmod a0 12)))) then (if (wrap64 (1 + (wrap64 (Int.tmod a0 12))) : Int).toNat ≤ 11728124029610 then (interlocklaw10_Graph.l0 k l1 (wrap64 (1 + (wrap64 (Int.tmod a0 12)))) (List.replicate (wrap64 (1 + (wrap64 (Int.tmod a0 12))) : Int).toNat []) 0) else (none)) else (none)
theorem interlocklaw10_Graph.mono_l : ∀ k, (∀ y0 y1 y2 y3, LeO (interlocklaw10_Graph.l0 k y0 y1 y2 y3) (interlocklaw10_Graph.l0 (k + 1) y0 y1 y2 y3))
  | 0 => fun _ _ _ _ r h => by simp [interlocklaw10_Graph.l0] at h
  | k + 1 => by
    have ih0 := interlocklaw10_Graph.mono_l k
    · intro y0 y1 y2 y3
      unfold interlocklaw10_Graph.l0
      repeat' first
      | (with_reducible exact ih0 _ _ _ _)
      | (with_reducible exact LeO.refl _)
      | (with_reducible exact LeO.none _)
      | (with_reducible refine LeO.ite ?_ ?_)
      | (with_reducible refine LeO.bind ?_ (fun _ => ?_))
      | exact ih0 _ _ _ _
      | exact LeO.none _
      | refine LeO.ite ?_ ?_
      | refine LeO.bind ?_ (fun _ => ?_)
theorem interlocklaw10_Graph.mono : ∀ a0 a1 k, LeO (interlocklaw10_Graph.f k a0 a1) (interlocklaw10_Graph.f (k + 1) a0 a1) := by
  intro a0 a1 k
  have ih0 := interlocklaw10_Graph.mono_l k
  unfold interlocklaw10_Graph.f
  repeat' first
      | (with_reducible exact ih0 _ _ _ _)
      | (with_reducible exact LeO.refl _)
      | (with_reducible exact LeO.none _)
      | (with_reducible refine LeO.ite ?_ ?_)
      | (with_reducible refine LeO.bind ?_ (fun _ => ?_))
      | exact ih0 _ _ _ _
      | exact LeO.none _
      | refine LeO.ite ?_ ?_
      | refine LeO.bind ?_ (fun _ => ?_)
def interlocklaw10_Graph.T7 : Bool × List (List Nat × List Nat) := (true, [([], []), ([], []), ([], []), ([], []), ([2, 3], [2, 3]), ([4], [4]), ([], []), ([], []), ([7], [7]), ([6, 8], [6, 8]), ([9], [9]), ([10], [10]), ([], []), ([12], [12]), ([11, 13], [11, 13]), ([14], [14]), ([], []), ([], []), ([16, 17], [16, 17]), ([18], [18]), ([19], [19]), ([20], [20]), ([15, 21], [15, 21]), ([22], [22]), ([5, 23], [5, 23]), ([0, 1, 0, 1, 2, 3, 4, 5, 6, 7, 8, 9, 10, 11, 12, 13, 14, 15, 16, 17, 18, 19, 20, 21, 22, 23, 24], [0, 1]), ([25, 24, 24, 0, 1, 2, 3, 4, 5, 6, 7, 8, 9, 10, 11, 12, 13, 14, 15, 16, 17, 18, 19, 20, 21, 22, 23, 24], [24, 25])])
def interlocklaw10_Graph.B7 : List Nat := [0, 0, 0, 0, 12, 28, 0, 0, 128, 448, 960, 1984, 0, 4096, 16320, 32704, 0, 0, 196608, 458752, 983040, 2031616, 4194240, 8388544, 16777212, 33554431, 67108863]
theorem interlocklaw10_Graph.tab7 : rtab .any (opsOf Try.f9 7) = interlocklaw10_Graph.T7 := by kernel_rfl
theorem interlocklaw10_Graph.bits7 : waitsOk interlocklaw10_Graph.T7.2 interlocklaw10_Graph.B7 = true := by kernel_rfl
set_option maxHeartbeats 8000000 in
set_option maxRecDepth 100000 in
theorem interlocklaw10_Graph.calls (k : Nat) (a0 : Int) (A1 : Option Addr) (c1 : Nat) (l1 : List Int) (r : List (List Int)) (w : World) (hr1 : Kd.C (Kd.int .u8) w A1 l1.length l1) (hc1 : l1.length ≤ c1) (h : interlocklaw10_Graph.f k a0 l1 = some r) :
    Calls Try.prog 9 #[.int .u8 a0, .slice A1 l1.length c1] w fun e w' => ∃ v0_ : Value, e = .returned (v0_) ∧ Kd.S (Kd.slice 3 (Kd.int .i64)) 33 w' w.heap.size (fun _ => True) v0_ r ∧ Below w.heap.size w w' := by
 have HR1 := Aside0.mk hr1
 have HC1 := Aside0.mk hc1
 clear hr1 hc1
 have HB := Aside0.mk (Below.refl w.heap.size w)
 have H : (if 0 ≤ (wrap64 (1 + (wrap64 (Int.tmod a0 12)))) then (if (wrap64 (1 + (wrap64 (Int.tmod a0 12))) : Int).toNat ≤ 11728124029610 then (interlocklaw10_Graph.l0 k l1 (wrap64 (1 + (wrap64 (Int.tmod a0 12)))) (List.replicate (wrap64 (1 + (wrap64 (Int.tmod a0 12))) : Int).toNat []) 0) else (none)) else (none)) = some r := h
 clear h
 obtain ⟨ji3, hji3⟩ : ∃ j_ : Int, (wrap64 (1 + (wrap64 (Int.tmod a0 12)))) = j_ := ⟨_, rfl⟩
 replace H : (if 0 ≤ (ji3) then (if (ji3 : Int).toNat ≤ 11728124029610 then (interlocklaw10_Graph.l0 k l1 ji3 (List.replicate (ji3 : Int).toNat []) 0) else (none)) else (none)) = some r := by first | (rw [hji3] at H; exact H) | (simp only [hji3] at H ⊢; exact H)
 have hji3w : (IntKind.i64.wrap (1 + (wrap64 (Int.tmod a0 12)))) = ji3 := (i64_w _).trans hji3
 by_cases c4 : 0 ≤ (ji3)
 {
 rw [if_pos c4] at H
 have c4b0 := eq_true c4
 have c4b1 : decide (0 ≤ (ji3)) = true := decide_eq_true c4
 clear c4
 by_cases c5 : (ji3 : Int).toNat ≤ 11728124029610
 {
 rw [if_pos c5] at H
 have c5b0 := eq_true c5
 have c5b1 : decide ((ji3 : Int).toNat ≤ 11728124029610) = true := decide_eq_true c5
 clear c5
 obtain ⟨y189, hy189⟩ : ∃ y_ : List (List Int), y_ = (List.replicate (ji3 : Int).toNat []) := ⟨_, rfl⟩
 replace H : (interlocklaw10_Graph.l0 k l1 ji3 y189 0) = some r := by first | (rw [hy189]; with_reducible exact H) | (have H2_ := (Option.bind_some _ _).symm.trans H; rw [hy189]; with_reducible exact H2_) | (have H2_ := (Option.bind_some _ _).symm.trans H; with_reducible exact H2_) | with_reducible exact H | (rw [hy189]; exact H) | exact H
 have Ny189 := Aside0.mk hy189
 clear hy189
 have H' := Aside0.mk H
 clear H
 go_enter Try.func9, Try.ntmps9
 go_wp2_with (first | ((with_reducible refine gate_dst (N := 14) rfl ?_); refine Kd.S_make (Kd.slice 3 (Kd.int .i64)) _ 33 rfl (N := 14) rfl 26 _ _ rfl ji3 rfl rfl Try.underlying26 (.slice none 0 0) 24 info33 rfl (by decide) (by omega) [] (ok := fun _ => True) (okp := fun _ => True) ⟨_, rfl, Kd.R_nil _ _ _ _ _⟩ (fun _ hk => hk) trivial (of_decide_eq_true (by first | (with_reducible assumption) | assumption)) (Nat.le_trans (Nat.mul_le_mul_right _ (of_decide_eq_true (by first | (with_reducible assumption) | assumption) : ji3.toNat ≤ 11728124029610)) (by omega)) (Below.refl _ _) (Nat.le_refl _) ?_; intro v190 w6 ho7 hb hg_ hnew_; clear hg_ hnew_; (first | rw [← Ny189.out] at ho7 | (simp only [Int.reduceToNat] at ho7; rw [← Ny189.out] at ho7)); have n0_ := Aside0.mk (Kd.S_lower ho7 (below_size (by repeat (first | (with_reducible first | exact HB.out | apply below_alloc | apply pw_below_drewN | apply below_drew1) | exact HB.out)))); have n1_ := Aside0.mk (below_step (by repeat (first | (with_reducible first | exact HB.out | apply below_alloc | apply pw_below_drewN | apply below_drew1) | exact HB.out)) hb); clear HB; have HO191 := n0_; have HB := n1_; clear n0_ n1_; clear hb ho7))
 go_loopg [7] k (fun kq v7 w' => ∃ (x6_1 : List (List Int)) (x7_1 : Int), v7 = .int .i64 x7_1 ∧ Aside0 (interlocklaw10_Graph.l0 kq l1 ji3 x6_1 x7_1 = some r) ∧ Aside0 (kq ≤ k) ∧ Aside0 (Kd.S (Kd.slice 3 (Kd.int .i64)) 33 w' w.heap.size (fun _ => True) v190 x6_1) ∧ Aside0 (Below w.heap.size w w'))
 case atStart => exact ⟨(y189), (0), (by first | rfl | (simp; done) | (simp [*]; done)), H', ⟨Nat.le_refl _⟩, ⟨by (with_reducible repeat (first | apply Kd.S_alloc | apply Kd.S_drewN | apply Kd.S_drew)); exact HO191.out⟩, ⟨by repeat (first | (with_reducible first | exact HB.out | apply below_alloc | apply pw_below_drewN | apply below_drew1) | exact HB.out)⟩⟩
 case round => (
 clear H'
 try clear c1
 try clear p2
 try clear c4
 try clear c4b0
 try clear c4b1
 try clear c5
 try clear c5b0
 try clear c5b1
 try clear p6
 obtain ⟨x6_1, x7_1, rfl, HA, HK1, HO_6, HB⟩ := hrel
 cases gk with
 | zero => exact absurd HA.out (by simp [interlocklaw10_Graph.l0])
 | succ k1 => (
 have H := HA.out
 clear HA
 simp only [interlocklaw10_Graph.l0] at H
 by_cases c8 : (wrap64 (x7_1 + 1)) < (l1.length : Int)
 {
 rw [if_pos c8] at H
 have c8b0 : decide ((wrap64 (x7_1 + 1)) < (l1.length : Int)) = true := decide_eq_true c8
 clear c8
 by_cases c9 : x7_1 < 50
 {
 rw [if_pos c9] at H
 have c9b0 : decide (x7_1 < 50) = true := decide_eq_true c9
 clear c9
 by_cases c10 : 0 ≤ x7_1
 {
 rw [if_pos c10] at H
 have c10b0 : decide (0 ≤ x7_1) = true := decide_eq_true c10
 clear c10
 by_cases c11 : x7_1 < (l1.length : Int)
 {
 rw [if_pos c11] at H
 have c11b0 : decide (x7_1 < (l1.length : Int)) = true := decide_eq_true c11
 clear c11
 by_cases c12 : ji3 = 0
 {
 rw [if_pos c12] at H
 exact absurd H (by simp)
 }
 {
 rw [if_neg c12] at H
 have c12b0 : (ji3 == 0) = false := beq_eq_false_iff_ne.mpr c12
 have c12b1 : (ji3 != 0) = true := bne_iff_ne.mpr c12
 obtain ⟨ji13, hji13⟩ : ∃ j_ : Int, (Int.tmod (wrap64 (rd l1 x7_1)) ji3) = j_ := ⟨_, rfl⟩
 replace H : (if 0 ≤ (ji13) then (if (ji13) < (x6_1.length : Int) then (if 0 ≤ (wrap64 (x7_1 + 1)) then (if (wrap64 (ji3 + 2)) = 0 then (none) else (if (rd_L1 x6_1 (ji13)).length < 17592186044416 then (interlocklaw10_Graph.l0 k1 l1 ji3 (x6_1.set ((ji13) : Int).toNat ((rd_L1 x6_1 (ji13)) ++ [wrap64 ((wrap64 ((Int.tmod (wrap64 (rd l1 (wrap64 (x7_1 + 1)))) (wrap64 (ji3 + 2))) - 1)) + ((Int.tdiv (rd l1 x7_1) 240) % 256))])) (wrap64 (x7_1 + 2))) else (none))) else (none)) else (none)) else (none)) = some r := by first | (rw [hji13] at H; exact H) | (simp only [hji13] at H ⊢; exact H)
 have hji13q : Int.tmod (IntKind.i64.wrap (rd l1 x7_1)) ji3 = ji13 := by first | (rw [i64_w]; exact hji13) | (simp only [i64_w]; exact hji13)
 by_cases c14 : 0 ≤ (ji13)
 {
 rw [if_pos c14] at H
 have c14b0 : decide (0 ≤ (ji13)) = true := decide_eq_true c14
 clear c14
 by_cases c15 : (ji13) < (x6_1.length : Int)
 {
 rw [if_pos c15] at H
 have c15b0 : decide ((ji13) < (x6_1.length : Int)) = true := decide_eq_true c15
 clear c15
 obtain ⟨ji16, hji16⟩ : ∃ j_ : Int, (wrap64 (x7_1 + 1)) = j_ := ⟨_, rfl⟩
 replace H : (if 0 ≤ (ji16) then (if (wrap64 (ji3 + 2)) = 0 then (none) else (if (rd_L1 x6_1 (ji13)).length < 17592186044416 then (interlocklaw10_Graph.l0 k1 l1 ji3 (x6_1.set ((ji13) : Int).toNat ((rd_L1 x6_1 (ji13)) ++ [wrap64 ((wrap64 ((Int.tmod (wrap64 (rd l1 (ji16))) (wrap64 (ji3 + 2))) - 1)) + ((Int.tdiv (rd l1 x7_1) 240) % 256))])) (wrap64 (x7_1 + 2))) else (none))) else (none)) = some r := by first | (rw [hji16] at H; exact H) | (simp only [hji16] at H ⊢; exact H)
 (try rw [hji16] at c8b0)
 have hji16w : (IntKind.i64.wrap (x7_1 + 1)) = ji16 := (i64_w _).trans hji16
 by_cases c17 : 0 ≤ (ji16)
 {
 rw [if_pos c17] at H
 have c17b0 : decide (0 ≤ (ji16)) = true := decide_eq_true c17
 clear c17
 by_cases c18 : (wrap64 (ji3 + 2)) = 0
 {
 rw [if_pos c18] at H
 exact absurd H (by simp)
 }
 {
 rw [if_neg c18] at H
 have c18b0 : ((wrap64 (ji3 + 2)) == 0) = false := beq_eq_false_iff_ne.mpr c18
 have c18b1 : ((wrap64 (ji3 + 2)) != 0) = true := bne_iff_ne.mpr c18
 by_cases c19 : (rd_L1 x6_1 (ji13)).length < 17592186044416
 {
 rw [if_pos c19] at H
 have LMc19 := Aside0.mk c19
 clear c19
 obtain ⟨y196, hy196⟩ : ∃ y_ : List Int, y_ = ((rd_L1 x6_1 (ji13)) ++ [wrap64 ((wrap64 ((Int.tmod (wrap64 (rd l1 (ji16))) (wrap64 (ji3 + 2))) - 1)) + ((Int.tdiv (rd l1 x7_1) 240) % 256))]) := ⟨_, rfl⟩
 replace H : (interlocklaw10_Graph.l0 k1 l1 ji3 (x6_1.set ((ji13) : Int).toNat y196) (wrap64 (x7_1 + 2))) = some r := by first | (rw [hy196]; with_reducible exact H) | (have H2_ := (Option.bind_some _ _).symm.trans H; rw [hy196]; with_reducible exact H2_) | (have H2_ := (Option.bind_some _ _).symm.trans H; with_reducible exact H2_) | with_reducible exact H | (rw [hy196]; exact H) | exact H
 have Ny196 := Aside0.mk hy196
 clear hy196
 obtain ⟨y199, hy199⟩ : ∃ y_ : List (List Int), y_ = (x6_1.set ((ji13) : Int).toNat y196) := ⟨_, rfl⟩
 replace H : (interlocklaw10_Graph.l0 k1 l1 ji3 y199 (wrap64 (x7_1 + 2))) = some r := by first | (rw [hy199]; with_reducible exact H) | (have H2_ := (Option.bind_some _ _).symm.trans H; rw [hy199]; with_reducible exact H2_) | (have H2_ := (Option.bind_some _ _).symm.trans H; with_reducible exact H2_) | with_reducible exact H | (rw [hy199]; exact H) | exact H
 have Ny199 := Aside0.mk hy199
 clear hy199
 have H' := Aside0.mk H
 clear H
 have p192 : 0 ≤ (x7_1 : Int) := of_decide_eq_true (by first | (with_reducible assumption) | assumption)
 have q192 : x7_1 < (l1.length : Int) := of_decide_eq_true (by first | (with_reducible assumption) | assumption)
 obtain ⟨ad192, e192, hx192_0⟩ := Kd.at_int HR1.out x7_1 p192 q192
 cases e192
 replace hx192_0 := (HB.out.cell (World.block_lt_of_cell? w _ hx192_0)).trans hx192_0
 replace p192 := eq_true p192
 replace q192 := eq_true q192
 try go_wp2
 have n0_ := Aside0.mk (Kd.S_drew HO_6.out)
 have n1_ := Aside0.mk (below_drew1 HB.out)
 clear HO_6
 clear HB
 have HO_6 := n0_
 have HB := n1_
 clear n0_ n1_
 obtain ⟨Ao22, co22, eo22⟩ := Kd.S_slice HO_6.out
 (first | subst eo22 | (injection eo22 with f1_ f2_ f3_; have f4_ := f1_.symm; have f5_ := f3_.symm; clear f1_ f2_ f3_; subst f4_; subst f5_))
 have p193 : 0 ≤ ((ji13) : Int) := of_decide_eq_true (by first | (with_reducible assumption) | assumption)
 have q193 : (ji13) < (x6_1.length : Int) := of_decide_eq_true (by first | (with_reducible assumption) | assumption)
 obtain ⟨ad193, A193_0, c193_0, e193, hx193_0, hl193_0, hi193_0⟩ := at_L1 (Kd.S_reads' HO_6.out).2.2 (ji13) p193 q193
 cases e193
 obtain ⟨ce193, hce193, hMe193, hcc193⟩ := Kd.S_get HO_6.out [] (ji13) p193 (by first | exact q193 | exact of_decide_eq_true (by first | (with_reducible assumption) | assumption) | (have e_ := (Kd.S_reads' HO_6.out).1; omega))
 obtain ⟨ve193_0, rfl, ge193_0⟩ := hMe193
 have hv193_0 := hcc193 0 _ rfl
 rw [Nat.add_zero, show ((Kd.slice 3 (Kd.int .i64))).sz = 1 from rfl, Nat.mul_one] at hv193_0
 replace hv193_0 := Option.some.inj (hv193_0.symm.trans hx193_0)
 rw [hv193_0] at ge193_0
 have HL193_0 := Aside0.mk (show Kd.R (Kd.int .i64) 3 _ _ _ _ (rd_L1 x6_1 (ji13)) from ge193_0)
 clear hv193_0 ge193_0
 have HX193_0 := Aside0.mk hx193_0
 clear hcc193 hce193
 have HR193_0 := Aside0.mk hi193_0
 have HC193_0 := Aside0.mk hl193_0
 clear hi193_0 hl193_0
 replace p193 := eq_true p193
 replace q193 := eq_true q193
 have p194 : 0 ≤ ((ji16) : Int) := of_decide_eq_true (by first | (with_reducible assumption) | assumption)
 have q194 : (ji16) < (l1.length : Int) := of_decide_eq_true (by first | (with_reducible assumption) | assumption)
 obtain ⟨ad194, e194, hx194_0⟩ := Kd.at_int HR1.out (ji16) p194 q194
 have hw194_0 := hx194_0
 obtain rfl : ad192 = ad194 := (by injection e194)
 replace hx194_0 := (HB.out.cell (World.block_lt_of_cell? w _ hx194_0)).trans hx194_0
 replace p194 := eq_true p194
 replace q194 := eq_true q194
 have p195 : 0 ≤ (x7_1 : Int) := of_decide_eq_true (by first | (with_reducible assumption) | assumption)
 have q195 : x7_1 < (l1.length : Int) := of_decide_eq_true (by first | (with_reducible assumption) | assumption)
 obtain ⟨ad195, e195, hx195_0⟩ := Kd.at_int HR1.out x7_1 p195 q195
 have hw195_0 := hx195_0
 obtain rfl : ad192 = ad195 := (by injection e195)
 replace hx195_0 := (HB.out.cell (World.block_lt_of_cell? w _ hx195_0)).trans hx195_0
 replace p195 := eq_true p195
 replace q195 := eq_true q195
 obtain ⟨go23, co23, eo23, gb23, gl23, cl23, HG23⟩ := Kd.S_form HO_6.out (by have h_ : ((ji13) : Int) < ((x6_1.length : Int) : Int) := of_decide_eq_true (by first | (with_reducible assumption) | assumption); have h2_ : 0 ≤ ((ji13) : Int) := (of_decide_eq_true (by first | (with_reducible assumption) | assumption)); omega)
 (first | cases eo23 | (injection eo23 with ea_ en_ ec_; (first | subst ea_ | (injection ea_ with ea_; subst ea_)); subst ec_; clear en_))
 have GB23 := Aside0.mk gb23
 have GG23 := Aside0.mk HG23
 clear gb23 gl23 HG23
 (first | simp only [add_plain] at hx193_0 | skip)
 obtain ⟨oki23, ce23, hcl23, hM23, hcc23, _, _, hH23⟩ := Kd.S_elem HO_6.out [] ((ji13) : Int) (of_decide_eq_true (by first | (with_reducible assumption) | assumption)) (by have h_ : ((ji13) : Int) < ((x6_1.length : Int) : Int) := of_decide_eq_true (by first | (with_reducible assumption) | assumption); first | exact h_ | (have e_ := (Kd.S_reads' HO_6.out).1; omega) | simpa using h_)
 obtain ⟨ve23_0, rfl, ge23_0⟩ := hM23
 have hv23 := hcc23 0 _ rfl
 have hX23 := HX193_0.out
 (try simp only [add_plain] at hX23)
 (try simp only [Nat.add_zero] at hv23)
 (try rw [show ((Kd.slice 3 (Kd.int .i64))).sz = 1 from rfl, Nat.mul_one] at hv23)
 replace hv23 := Option.some.inj (hv23.symm.trans hX23)
 subst hv23
 clear hX23 hcc23 hcl23
 have UU23 := Aside0.mk (show Kd.R (Kd.int .i64) 3 _ w.heap.size oki23 (.slice A193_0 (rd_L1 x6_1 (ji13)).length c193_0) (rd_L1 x6_1 (ji13)) from ge23_0)
 have HH23 := Aside0.mk hH23
 have HN23 := Aside0.mk (Kd.S_reads' HO_6.out).1
 clear hH23 ge23_0
 refine start_ (n := 27) (S := fun w' => w'.cell? ⟨go23, ((ji13)).toNat, none⟩ = some (.slice A193_0 (rd_L1 x6_1 (ji13)).length c193_0) ∧ w'.cell? (ad192.add ((ji16)).toNat) = some (.int .u8 (rd l1 (ji16))) ∧ w'.cell? (ad192.add (x7_1).toNat) = some (.int .u8 (rd l1 x7_1))) (ds := [26]) #[false, false, false, false, false, false, false, false, false, false, false, false, false, false, false, false, false, false, false, false, false, false, false, false, false, false, false] (by kernel_rfl) rfl rfl ⟨hx193_0, ((HB.out.cell (World.block_lt_of_cell? w _ hw194_0)).trans hw194_0), ((HB.out.cell (World.block_lt_of_cell? w _ hw195_0)).trans hw195_0)⟩ (fun hHeld => ?_); refine with_tabW interlocklaw10_Graph.tab7 interlocklaw10_Graph.bits7 (fun HT_ HW_ => ?_)
 generalize wr.drew = w21 at HO_6 HB GG23 HH23 HL193_0 HR193_0 HX193_0 UU23 hx193_0 hx194_0 hx195_0 hHeld ⊢
 refine pure_ (i := 0) (N := some 33) (v := ?_) (a' := ?_) #[true, false, false, false, false, false, false, false, false, false, false, false, false, false, false, false, false, false, false, false, false, false, false, false, false, false, false] rfl rfl (any_of HT_.out (by kernel_rfl)) (fun _ _ _ h => h) (Or.inl ⟨by rfl, ?_⟩) ?_ ?_
 rotate_left
 {
 intro w'
 go_simp
 with_reducible rfl
 }
 rotate_left
 {
 simp only [Act.put, sT_, sZ_, sS_, i64_w, i32_w, u8q_]
 rfl
 }
 refine pure_ (i := 1) (N := some 34) (v := ?_) (a' := ?_) #[true, true, false, false, false, false, false, false, false, false, false, false, false, false, false, false, false, false, false, false, false, false, false, false, false, false, false] rfl rfl (any_of HT_.out (by kernel_rfl)) (fun _ _ _ h => h) (Or.inl ⟨by rfl, ?_⟩) ?_ ?_
 rotate_left
 {
 intro w'
 go_simp
 with_reducible rfl
 }
 rotate_left
 {
 simp only [Act.put, sT_, sZ_, sS_, i64_w, i32_w, u8q_]
 rfl
 }
 refine pure_ (i := 2) (N := some 35) (v := ?_) (a' := ?_) #[true, true, true, false, false, false, false, false, false, false, false, false, false, false, false, false, false, false, false, false, false, false, false, false, false, false, false] rfl rfl (any_of HT_.out (by kernel_rfl)) (fun _ _ _ h => h) (Or.inl ⟨by rfl, ?_⟩) ?_ ?_
 rotate_left
 {
 intro w'
 go_simp
 with_reducible rfl
 }
 rotate_left
 {
 simp only [Act.put, sT_, sZ_, sS_, i64_w, i32_w, u8q_]
 rfl
 }
 refine pure_ (i := 3) (N := some 36) (v := ?_) (a' := ?_) #[true, true, true, true, false, false, false, false, false, false, false, false, false, false, false, false, false, false, false, false, false, false, false, false, false, false, false] rfl rfl (any_of HT_.out (by kernel_rfl)) (fun _ _ _ h => h) (Or.inl ⟨by rfl, ?_⟩) ?_ ?_
 rotate_left
 {
 intro w'
 go_simp
 with_reducible rfl
 }
 rotate_left
 {
 simp only [Act.put, sT_, sZ_, sS_, i64_w, i32_w, u8q_]
 rfl
 }
 refine pure_ (i := 4) (N := some 37) (v := ?_) (a' := ?_) #[true, true, true, true, true, false, false, false, false, false, false, false, false, false, false, false, false, false, false, false, false, false, false, false, false, false, false] rfl rfl (any_of HT_.out (by kernel_rfl)) (fun _ _ _ h => h) (Or.inl ⟨by rfl, ?_⟩) ?_ ?_
 rotate_left
 {
 intro w'
 go_simp
 with_reducible rfl
 }
 rotate_left
 {
 simp only [Act.put, sT_, sZ_, sS_, i64_w, i32_w, u8q_]
 rfl
 }
 refine pure_ (i := 6) (N := some 39) (v := ?_) (a' := ?_) #[true, true, true, true, true, false, true, false, false, false, false, false, false, false, false, false, false, false, false, false, false, false, false, false, false, false, false] rfl rfl (any_of HT_.out (by kernel_rfl)) (fun _ _ _ h => h) (Or.inl ⟨by rfl, ?_⟩) ?_ ?_
 rotate_left
 {
 intro w'
 go_simp
 with_reducible rfl
 }
 rotate_left
 {
 simp only [Act.put, sT_, sZ_, sS_, i64_w, i32_w, u8q_]
 rfl
 }
 refine pure_ (i := 7) (N := some 40) (v := ?_) (a' := ?_) #[true, true, true, true, true, false, true, true, false, false, false, false, false, false, false, false, false, false, false, false, false, false, false, false, false, false, false] rfl rfl (any_of HT_.out (by kernel_rfl)) (fun _ _ _ h => h) (Or.inl ⟨by rfl, ?_⟩) ?_ ?_
 rotate_left
 {
 intro w'
 go_simp
 with_reducible rfl
 }
 rotate_left
 {
 simp only [Act.put, sT_, sZ_, sS_, i64_w, i32_w, u8q_]
 rfl
 }
 refine pure_ (i := 8) (N := some 41) (v := ?_) (a' := ?_) #[true, true, true, true, true, false, true, true, true, false, false, false, false, false, false, false, false, false, false, false, false, false, false, false, false, false, false] rfl rfl (any_of HT_.out (by kernel_rfl)) (fun _ _ _ h => h) (Or.inl ⟨by rfl, ?_⟩) ?_ ?_
 rotate_left
 {
 intro w'
 go_simp
 with_reducible rfl
 }
 rotate_left
 {
 simp only [Act.put, sT_, sZ_, sS_, i64_w, i32_w, u8q_]
 rfl
 }
 refine pure_ (i := 9) (N := some 42) (v := ?_) (a' := ?_) #[true, true, true, true, true, false, true, true, true, true, false, false, false, false, false, false, false, false, false, false, false, false, false, false, false, false, false] rfl rfl (any_of HT_.out (by kernel_rfl)) (fun _ _ _ h => h) (Or.inl ⟨by rfl, ?_⟩) ?_ ?_
 rotate_left
 {
 intro w'
 go_simp
 with_reducible rfl
 }
 rotate_left
 {
 simp only [Act.put, sT_, sZ_, sS_, i64_w, i32_w, u8q_]
 rfl
 }
 refine pure_ (i := 12) (N := some 45) (v := ?_) (a' := ?_) #[true, true, true, true, true, false, true, true, true, true, false, false, true, false, false, false, false, false, false, false, false, false, false, false, false, false, false] rfl rfl (any_of HT_.out (by kernel_rfl)) (fun _ _ _ h => h) (Or.inl ⟨by rfl, ?_⟩) ?_ ?_
 rotate_left
 {
 intro w'
 go_simp
 with_reducible rfl
 }
 rotate_left
 {
 simp only [Act.put, sT_, sZ_, sS_, i64_w, i32_w, u8q_]
 rfl
 }
 refine pure_ (i := 13) (N := some 46) (v := ?_) (a' := ?_) #[true, true, true, true, true, false, true, true, true, true, false, false, true, true, false, false, false, false, false, false, false, false, false, false, false, false, false] rfl rfl (any_of HT_.out (by kernel_rfl)) (fun _ _ _ h => h) (Or.inl ⟨by rfl, ?_⟩) ?_ ?_
 rotate_left
 {
 intro w'
 go_simp
 with_reducible rfl
 }
 rotate_left
 {
 simp only [Act.put, sT_, sZ_, sS_, i64_w, i32_w, u8q_]
 rfl
 }
 refine pure_ (i := 16) (N := some 49) (v := ?_) (a' := ?_) #[true, true, true, true, true, false, true, true, true, true, false, false, true, true, false, false, true, false, false, false, false, false, false, false, false, false, false] rfl rfl (any_of HT_.out (by kernel_rfl)) (fun _ _ _ h => h) (Or.inl ⟨by rfl, ?_⟩) ?_ ?_
 rotate_left
 {
 intro w'
 go_simp
 with_reducible rfl
 }
 rotate_left
 {
 simp only [Act.put, sT_, sZ_, sS_, i64_w, i32_w, u8q_]
 rfl
 }
 refine pure_ (i := 17) (N := some 50) (v := ?_) (a' := ?_) #[true, true, true, true, true, false, true, true, true, true, false, false, true, true, false, false, true, true, false, false, false, false, false, false, false, false, false] rfl rfl (any_of HT_.out (by kernel_rfl)) (fun _ _ _ h => h) (Or.inl ⟨by rfl, ?_⟩) ?_ ?_
 rotate_left
 {
 intro w'
 go_simp
 with_reducible rfl
 }
 rotate_left
 {
 simp only [Act.put, sT_, sZ_, sS_, i64_w, i32_w, u8q_]
 rfl
 }
 refine pure_ (i := 18) (N := some 51) (v := ?_) (a' := ?_) #[true, true, true, true, true, false, true, true, true, true, false, false, true, true, false, false, true, true, true, false, false, false, false, false, false, false, false] rfl rfl (any_of HT_.out (by kernel_rfl)) (fun _ _ _ h => h) (Or.inl ⟨by rfl, ?_⟩) ?_ ?_
 rotate_left
 {
 intro w'
 go_simp
 with_reducible rfl
 }
 rotate_left
 {
 simp only [Act.put, sT_, sZ_, sS_, i64_w, i32_w, u8q_]
 rfl
 }
 refine take_ (i := 5) (N := some 38) (v := ?_) (a' := ?_) #[true, true, true, true, true, true, true, true, true, true, false, false, true, true, false, false, true, true, true, false, false, false, false, false, false, false, false] rfl rfl (take_ofW HT_.out HW_.out (by kernel_rfl)) (fun _ _ _ h => h) (Or.inl ⟨by rfl, ?_⟩) hHeld ?_ ?_
 rotate_left
 {
 rintro w' ⟨s0, s1, s2⟩
 go_simp
 with_reducible rfl
 }
 rotate_left
 {
 simp only [Act.put, sT_, sZ_, sS_, i64_w, i32_w, u8q_]
 rfl
 }
 refine take_ (i := 10) (N := some 43) (v := ?_) (a' := ?_) #[true, true, true, true, true, true, true, true, true, true, true, false, true, true, false, false, true, true, true, false, false, false, false, false, false, false, false] rfl rfl (take_ofW HT_.out HW_.out (by kernel_rfl)) (fun _ _ _ h => h) (Or.inl ⟨by rfl, ?_⟩) hHeld ?_ ?_
 rotate_left
 {
 rintro w' ⟨s0, s1, s2⟩
 go_simp
 with_reducible rfl
 }
 rotate_left
 {
 simp only [Act.put, sT_, sZ_, sS_, i64_w, i32_w, u8q_]
 rfl
 }
 refine pure_ (i := 11) (N := some 44) (v := ?_) (a' := ?_) #[true, true, true, true, true, true, true, true, true, true, true, true, true, true, false, false, true, true, true, false, false, false, false, false, false, false, false] rfl rfl (any_of HT_.out (by kernel_rfl)) (fun _ _ _ h => h) (Or.inl ⟨by rfl, ?_⟩) ?_ ?_
 rotate_left
 {
 intro w'
 go_simp
 with_reducible rfl
 }
 rotate_left
 {
 simp only [Act.put, sT_, sZ_, sS_, i64_w, i32_w, u8q_]
 rfl
 }
 refine pure_ (i := 14) (N := some 47) (v := ?_) (a' := ?_) #[true, true, true, true, true, true, true, true, true, true, true, true, true, true, true, false, true, true, true, false, false, false, false, false, false, false, false] rfl rfl (any_of HT_.out (by kernel_rfl)) (fun _ _ _ h => h) (Or.inl ⟨by rfl, ?_⟩) ?_ ?_
 rotate_left
 {
 intro w'
 go_simp
 with_reducible rfl
 }
 rotate_left
 {
 simp only [Act.put, sT_, sZ_, sS_, i64_w, i32_w, u8q_]
 rfl
 }
 refine pure_ (i := 15) (N := some 48) (v := ?_) (a' := ?_) #[true, true, true, true, true, true, true, true, true, true, true, true, true, true, true, true, true, true, true, false, false, false, false, false, false, false, false] rfl rfl (any_of HT_.out (by kernel_rfl)) (fun _ _ _ h => h) (Or.inl ⟨by rfl, ?_⟩) ?_ ?_
 rotate_left
 {
 intro w'
 go_simp
 with_reducible rfl
 }
 rotate_left
 {
 simp only [Act.put, sT_, sZ_, sS_, i64_w, i32_w, u8q_]
 rfl
 }
 refine take_ (i := 19) (N := some 52) (v := ?_) (a' := ?_) #[true, true, true, true, true, true, true, true, true, true, true, true, true, true, true, true, true, true, true, true, false, false, false, false, false, false, false] rfl rfl (take_ofW HT_.out HW_.out (by kernel_rfl)) (fun _ _ _ h => h) (Or.inl ⟨by rfl, ?_⟩) hHeld ?_ ?_
 rotate_left
 {
 rintro w' ⟨s0, s1, s2⟩
 go_simp
 with_reducible rfl
 }
 rotate_left
 {
 simp only [Act.put, sT_, sZ_, sS_, i64_w, i32_w, u8q_]
 rfl
 }
 refine pure_ (i := 20) (N := some 53) (v := ?_) (a' := ?_) #[true, true, true, true, true, true, true, true, true, true, true, true, true, true, true, true, true, true, true, true, true, false, false, false, false, false, false] rfl rfl (any_of HT_.out (by kernel_rfl)) (fun _ _ _ h => h) (Or.inl ⟨by rfl, ?_⟩) ?_ ?_
 rotate_left
 {
 intro w'
 go_simp
 with_reducible rfl
 }
 rotate_left
 {
 simp only [Act.put, sT_, sZ_, sS_, i64_w, i32_w, u8q_]
 rfl
 }
 refine pure_ (i := 21) (N := some 54) (v := ?_) (a' := ?_) #[true, true, true, true, true, true, true, true, true, true, true, true, true, true, true, true, true, true, true, true, true, true, false, false, false, false, false] rfl rfl (any_of HT_.out (by kernel_rfl)) (fun _ _ _ h => h) (Or.inl ⟨by rfl, ?_⟩) ?_ ?_
 rotate_left
 {
 intro w'
 go_simp
 with_reducible rfl
 }
 rotate_left
 {
 simp only [Act.put, sT_, sZ_, sS_, i64_w, i32_w, u8q_]
 rfl
 }
 refine pure_ (i := 22) (N := some 55) (v := ?_) (a' := ?_) #[true, true, true, true, true, true, true, true, true, true, true, true, true, true, true, true, true, true, true, true, true, true, true, false, false, false, false] rfl rfl (any_of HT_.out (by kernel_rfl)) (fun _ _ _ h => h) (Or.inl ⟨by rfl, ?_⟩) ?_ ?_
 rotate_left
 {
 intro w'
 go_simp
 with_reducible rfl
 }
 rotate_left
 {
 simp only [Act.put, sT_, sZ_, sS_, i64_w, i32_w, u8q_]
 rfl
 }
 refine one_ (i := 23) (N := some 56) #[true, true, true, true, true, true, true, true, true, true, true, true, true, true, true, true, true, true, true, true, true, true, true, true, false, false, false] rfl rfl (one_of HT_.out (by kernel_rfl)) (by decide) (fun K hK => ?_)
 refine value_ (w1 := ?_) (v := ?_) (by rfl) rfl ?_ ?_
 rotate_left 2
 {
 go_simp
 constructor
 {
 rfl
 }
 {
 rfl
 }
 }
 refine hK.out _ _ ⟨(World.cell?_alloc_lt _ _ _ (World.block_lt_of_cell? _ _ (hHeld.1))).trans (hHeld.1), (World.cell?_alloc_lt _ _ _ (World.block_lt_of_cell? _ _ (((HB.out.cell (World.block_lt_of_cell? w _ hw194_0)).trans hw194_0)))).trans (((HB.out.cell (World.block_lt_of_cell? w _ hw194_0)).trans hw194_0)), (World.cell?_alloc_lt _ _ _ (World.block_lt_of_cell? _ _ (((HB.out.cell (World.block_lt_of_cell? w _ hw195_0)).trans hw195_0)))).trans (((HB.out.cell (World.block_lt_of_cell? w _ hw195_0)).trans hw195_0))⟩ (fun hHeld => ?_)
 clear hK K
 refine norm_ (a' := ?_) ?_ ?_
 rotate_left
 {
 show Act.put _ (some 56) _ = _
 simp only [Act.put, sT_, sZ_, sS_, i64_w, i32_w, u8q_]
 rfl
 }
 refine one_ (i := 24) (N := some 57) #[true, true, true, true, true, true, true, true, true, true, true, true, true, true, true, true, true, true, true, true, true, true, true, true, true, false, false] rfl rfl (one_of HT_.out (by kernel_rfl)) (by decide) (fun K hK => ?_)
 refine Kd.R_append_step (Kd.int .i64) (w0 := w) w.heap.size (by rfl) (.tmp 38) (.tmp 56) 33 3 (.int .i64 0) 8 rfl Try.underlying33 info3 rfl (by decide) (by omega) (.slice A193_0 (rd_L1 x6_1 (ji13)).length c193_0) (rd_L1 x6_1 (ji13)) (wrap64 ((wrap64 ((Int.tmod (wrap64 (rd l1 (ji16))) (wrap64 (ji3 + 2))) - 1)) + ((Int.tdiv (rd l1 x7_1) 240) % 256))) [.int .i64 (wrap64 ((wrap64 ((Int.tmod (wrap64 (rd l1 (ji16))) (wrap64 (ji3 + 2))) - 1)) + ((Int.tdiv (rd l1 x7_1) 240) % 256)))] (fun k_ => oki23 k_ ∨ ((fun _ => True)) k_ ∧ w21.heap.size ≤ k_) (fun _ => False) rfl rfl ?aP (fun _ hk => hk.elim) ?aF ?aO ?aB ?aS ?aL ?_
 (case aP => exact rfl)
 (case aB => exact (by repeat (first | (with_reducible first | exact HB.out | apply below_alloc | apply pw_below_drewN | apply below_drew1) | exact HB.out)))
 (case aF => exact (fun k_ hk => .inr ⟨trivial, hk⟩))
 (case aO => exact (by (with_reducible repeat (first | apply Kd.R_alloc | apply Kd.R_drewN | apply Kd.R_drew)); exact Kd.R_mono UU23.out (fun _ hk => .inl hk)))
 (case aS => exact (below_size (by repeat (first | (with_reducible first | exact HB.out | apply below_alloc | apply pw_below_drewN | apply below_drew1) | exact HB.out))))
 (case aL => have := LMc19.out; omega)
 intro v197 w24 ho hb hg hat
 (first | have HS0_ := cell_grown hg (hHeld.1) (by first | (rw [add_block]; exact (fun e_ => ((HL193_0.out.1 _ e_.symm).2) rfl)) | (show some (Addr.add _ _).block ≠ _; rw [add_block]; exact (fun e_ => ((HL193_0.out.1 _ e_.symm).2) rfl)) | exact (fun e_ => ((HL193_0.out.1 _ e_.symm).2) rfl)) | have HS0_ := cell_grown hg (cell_unalloc (hHeld.1) (by first | (rw [add_block]; exact Kd.S_lt HO_6.out _ rfl) | (show (Addr.add _ _).block < _; rw [add_block]; exact Kd.S_lt HO_6.out _ rfl) | exact Kd.S_lt HO_6.out _ rfl)) (by first | (rw [add_block]; exact (fun e_ => ((HL193_0.out.1 _ e_.symm).2) rfl)) | (show some (Addr.add _ _).block ≠ _; rw [add_block]; exact (fun e_ => ((HL193_0.out.1 _ e_.symm).2) rfl)) | exact (fun e_ => ((HL193_0.out.1 _ e_.symm).2) rfl)))
 rw [← Ny196.out] at ho
 have n0_ := Aside0.mk (hb)
 have n1_ := Aside0.mk (Kd.H_grown (Kd.H_widen (by repeat (first | exact HH23.out | refine Kd.H_alloc ?_ _ | refine Kd.H_drewN ?_ _ | refine Kd.H_drew ?_))) hg (fun k_ e_ => .inl (UU23.out.1 k_ e_)))
 have n2_ := Aside0.mk (ho)
 clear HB
 clear HH23
 clear HO_6
 clear UU23
 clear HL193_0
 have HB := n0_
 have HH23 := n1_
 have HO198 := n2_
 clear n0_ n1_ n2_
 clear ho hb hg hat
 have p20 : 0 ≤ ((ji13) : Int) := of_decide_eq_true (by first | (with_reducible assumption) | assumption)
 have q20 : ((ji13) : Int) < ((x6_1.length : Int) : Int) := of_decide_eq_true (by first | (with_reducible assumption) | assumption)
 replace p20 := eq_true p20
 replace q20 := eq_true q20
 obtain ⟨Ao27, co27, eo27⟩ := Kd.R_slice HO198.out
 (first | subst eo27 | (injection eo27 with f1_ f2_ f3_; have f4_ := f1_.symm; have f5_ := f3_.symm; clear f1_ f2_ f3_; subst f4_; subst f5_))
 obtain ⟨_, _, hraw25, _, _, hcc25, _⟩ := Kd.H_raw HH23.out (of_decide_eq_true (by first | (with_reducible assumption) | assumption)) (by have h_ : ((ji13) : Int) < ((x6_1.length : Int) : Int) := of_decide_eq_true (by first | (with_reducible assumption) | assumption); first | exact h_ | (have e_ := (HN23.out); omega) | simpa using h_)
 obtain ⟨_, hfr25⟩ := Kd.H_at HH23.out (of_decide_eq_true (by first | (with_reducible assumption) | assumption)) (by have h_ : ((ji13) : Int) < ((x6_1.length : Int) : Int) := of_decide_eq_true (by first | (with_reducible assumption) | assumption); first | exact h_ | (have e_ := (HN23.out); omega) | simpa using h_)
 have hx25_0 := hcc25 0 _ rfl
 have hf25_0 := hfr25 0
 (try simp only [Nat.add_zero] at hx25_0 hf25_0)
 (try rw [show ((Kd.slice 3 (Kd.int .i64))).sz = 1 from rfl, Nat.mul_one] at hx25_0)
 (try rw [show ((Kd.slice 3 (Kd.int .i64))).sz = 1 from rfl, Nat.mul_one] at hf25_0)
 have HP25 := Kd.S_seg0 HH23.out (of_decide_eq_true (by first | (with_reducible assumption) | assumption)) (by have h_ : ((ji13) : Int) < ((x6_1.length : Int) : Int) := of_decide_eq_true (by first | (with_reducible assumption) | assumption); first | exact h_ | (have e_ := (HN23.out); omega) | simpa using h_) (seg := [.slice Ao27 y196.length co27]) (j := 0) (show 1 ≤ 1 from by decide) (x' := y196) (Kd.M_row HO198.out) (fun _ hk => hk)
 (try simp only [show ((Kd.slice 3 (Kd.int .i64))).sz = 1 from rfl, Nat.mul_one, Nat.add_zero] at HP25)
 clear hcc25 hfr25
 have HS25 := HP25.1
 rw [← Ny199.out] at HS25
 have HQ25 := Aside0.mk HS25
 obtain ⟨_, hgg25⟩ := Kd.R_typed hraw25 go23 rfl
 have GG25_ := Aside0.mk hgg25
 clear HP25 HS25 hgg25
 refine hK.out _ _ ⟨HS0_, ((HB.out.cell (World.block_lt_of_cell? w _ hw194_0)).trans hw194_0), ((HB.out.cell (World.block_lt_of_cell? w _ hw195_0)).trans hw195_0)⟩ (fun hHeld => ?_)
 clear hK K
 refine norm_ (a' := ?_) ?_ ?_
 rotate_left
 {
 show Act.put _ (some 57) _ = _
 simp only [Act.put, sT_, sZ_, sS_, i64_w, i32_w, u8q_]
 rfl
 }
 refine pure_ (i := 25) (N := some 58) (v := ?_) (a' := ?_) #[true, true, true, true, true, true, true, true, true, true, true, true, true, true, true, true, true, true, true, true, true, true, true, true, true, true, false] rfl rfl (any_of HT_.out (by kernel_rfl)) (fun _ _ _ h => h) (Or.inl ⟨by rfl, ?_⟩) ?_ ?_
 rotate_left
 {
 intro w'
 go_simp
 with_reducible rfl
 }
 rotate_left
 {
 simp only [Act.put, sT_, sZ_, sS_, i64_w, i32_w, u8q_]
 rfl
 }
 refine last_ (i := 26) (N := none) #[true, true, true, true, true, true, true, true, true, true, true, true, true, true, true, true, true, true, true, true, true, true, true, true, true, true, true] rfl rfl (one_of HT_.out (by kernel_rfl)) (by decide) (fun K hK => ?_)
 refine skip_ (w1 := ?_) (by rfl) rfl ?_ ?_
 rotate_left
 {
 go_simp
 rfl
 }
 refine hK.out _ _ ?_
 clear hK K
 refine done_ (done_of HT_.out (by kernel_rfl)) ?_
 try go_wp2
 go_roundg k1
 case measure => have := HK1.out; omega
 case rel => exact ⟨(y199), (wrap64 (x7_1 + 2)), (by first | rfl | (simp; done) | (simp [*]; done)), H', ⟨by have := HK1.out; omega⟩, ⟨by (with_reducible repeat (first | apply Kd.S_alloc | apply Kd.S_drewN | apply Kd.S_drew)); exact HQ25.out⟩, ⟨by repeat (first | (with_reducible first | exact HB.out | apply below_alloc | apply pw_below_drewN | apply below_drew1 | refine below_set ?_ GB23.out) | exact HB.out)⟩⟩
 }
 {
 rw [if_neg c19] at H
 exact absurd H (by simp)
 }
 }
 }
 {
 rw [if_neg c17] at H
 exact absurd H (by simp)
 }
 }
 {
 rw [if_neg c15] at H
 exact absurd H (by simp)
 }
 }
 {
 rw [if_neg c14] at H
 exact absurd H (by simp)
 }
 }
 }
 {
 rw [if_neg c11] at H
 exact absurd H (by simp)
 }
 }
 {
 rw [if_neg c10] at H
 exact absurd H (by simp)
 }
 }
 {
 rw [if_neg c9] at H
 have c9b0 : decide (x7_1 < 50) = false := decide_eq_false c9
 clear c9
 obtain rfl := Option.some.inj H
 go_wp2
 go_ret
 exact ⟨_, by first | rfl | (simp [errW_none, errW_some] <;> rfl) | (simp only [← hji3]; first | rfl | (simp [errW_none, errW_some] <;> rfl)) | (simp [*, errW_none, errW_some] <;> rfl), by (with_reducible repeat (first | apply Kd.S_alloc | apply Kd.S_drewN | apply Kd.S_drew)); exact HO_6.out, by repeat (first | (with_reducible first | exact HB.out | apply below_alloc | apply pw_below_drewN | apply below_drew1) | exact HB.out)⟩
 }
 }
 {
 rw [if_neg c8] at H
 have c8b0 : decide ((wrap64 (x7_1 + 1)) < (l1.length : Int)) = false := decide_eq_false c8
 clear c8
 obtain rfl := Option.some.inj H
 go_wp2
 go_ret
 exact ⟨_, by first | rfl | (simp [errW_none, errW_some] <;> rfl) | (simp only [← hji3]; first | rfl | (simp [errW_none, errW_some] <;> rfl)) | (simp [*, errW_none, errW_some] <;> rfl), by (with_reducible repeat (first | apply Kd.S_alloc | apply Kd.S_drewN | apply Kd.S_drew)); exact HO_6.out, by repeat (first | (with_reducible first | exact HB.out | apply below_alloc | apply pw_below_drewN | apply below_drew1) | exact HB.out)⟩
 }
 )
 )
 }
 {
 rw [if_neg c5] at H
 exact absurd H (by simp)
 }
 }
 {
 rw [if_neg c4] at H
 exact absurd H (by simp)
 }
/-! ### interlocklaw13_Problem: function 12 -/
def mOf (a : Int) : Bool := Int.tmod a 2 == 0
def bOf (a : Int) : Bool := (Int.tdiv a 2) % 2 == 0
set_option maxHeartbeats 2000000 in
set_option maxRecDepth 100000 in
theorem prob_any (k : Nat) (a0 : Int) (A1 : Option Addr) (c1 : Nat) (l1 : List Int) (A2 A3 : Option Addr) (n2 c2 n3 c3 : Nat) (a4 a5 : Int) (g : List (List Int)) (w : World) (hr1 : Kd.C (Kd.int .u8) w A1 l1.length l1) (hc1 : l1.length ≤ c1) (hG : interlocklaw10_Graph.f k a0 l1 = some g) :
    Calls Try.prog 12 #[.int .u8 a0, .slice A1 l1.length c1, .slice A2 n2 c2, .slice A3 n3 c3, .int .u64 a4, .int .u8 a5] w fun e w' => ∃ A c, e = .returned (.agg #[.slice A g.length c, .slice A2 n2 c2, .slice A3 n3 c3, .int .u64 a4, .bool (mOf a5), .bool (bOf a5)]) ∧ g.length ≤ c ∧ Kd.C (Kd.slice 3 (Kd.int .i64)) w' A g.length g ∧ Below w.heap.size w w' := by
  have HR1 := Aside0.mk hr1
  have HC1 := Aside0.mk hc1
  have HG := Aside0.mk hG
  have HB := Aside0.mk (Below.refl w.heap.size w)
  clear hr1 hc1 hG
  go_enter Try.func12, Try.ntmps12
  go_wp2_with (first | ((with_reducible refine gate_dst (N := 12) rfl ?_); refine box_event ?hg (N := 12) ?hd (cs := #[.slice none 0 0, .slice none 0 0, .slice none 0 0, .int .u64 0, .bool false, .bool false]) (t := 31) ?hr ?_; (case hd => rfl); (case hg => rfl); (case hr => first | (go_simp; done) | (go_simp; rfl)); intro gb hg w8 hbox hb; have HX := Aside0.mk hbox; have HB8 := Aside0.mk hb; have HGE := Aside0.mk (show w.heap.size ≤ gb by rw [hg]; exact Nat.le_refl _); clear hg hbox hb) | (go_at_call 9; (with_reducible refine (interlocklaw10_Graph.calls k a0 _ _ l1 g _ ?side1 ?side2 HG.out).mono ?_); (case side1 => exact Kd.C_below HR1.out HB8.out); (case side2 => exact HC1.out); rintro e w9 ⟨v9, rfl, ho, hb⟩; replace ho := Kd.S_R ho; obtain ⟨A9, c9, e9, hc9, _⟩ := Kd.R_reads ho; subst e9; have HO := Aside0.mk ho; have HC9 := Aside0.mk hc9; have HX9 := Aside0.mk (blk_below HX.out hb); have HB9 := Aside0.mk (below_step HB8.out hb); have HLT := Aside0.mk (blk_lt HX.out); clear ho hb hc9; have hz0 := (blk_cell HX9.out 0).trans rfl; have hz1 := (blk_cell HX9.out 1).trans rfl; have hz2 := (blk_cell HX9.out 2).trans rfl; have hz3 := (blk_cell HX9.out 3).trans rfl; have hz4 := (blk_cell HX9.out 4).trans rfl; have hz5 := (blk_cell HX9.out 5).trans rfl; have hf0 := blk_frozen HX9.out 0; have hf1 := blk_frozen HX9.out 1; have hf2 := blk_frozen HX9.out 2; have hf3 := blk_frozen HX9.out 3; have hf4 := blk_frozen HX9.out 4; have hf5 := blk_frozen HX9.out 5))
  have HBX := Aside0.mk (blk_put (cs := #[.slice A9 g.length c9, .slice A2 n2 c2, .slice A3 n3 c3, .int .u64 a4, .bool (Int.tmod a5 2 == 0), .bool false]) (blk_put (cs := #[.slice A9 g.length c9, .slice A2 n2 c2, .slice A3 n3 c3, .int .u64 a4, .bool false, .bool false]) (blk_put (cs := #[.slice A9 g.length c9, .slice A2 n2 c2, .slice A3 n3 c3, .int .u64 0, .bool false, .bool false]) (blk_put (cs := #[.slice A9 g.length c9, .slice A2 n2 c2, .slice none 0 0, .int .u64 0, .bool false, .bool false]) (blk_put (cs := #[.slice A9 g.length c9, .slice none 0 0, .slice none 0 0, .int .u64 0, .bool false, .bool false]) (blk_put (cs := #[.slice none 0 0, .slice none 0 0, .slice none 0 0, .int .u64 0, .bool false, .bool false]) HX9.out 0 (.slice A9 g.length c9) rfl) 1 (.slice A2 n2 c2) rfl) 2 (.slice A3 n3 c3) rfl) 3 (.int .u64 a4) rfl) 4 (.bool (Int.tmod a5 2 == 0)) rfl) 5 (.bool ((Int.tdiv a5 2) % 2 == 0)) rfl)
  have HRX := Aside0.mk (Kd.R_far (p := ⟨gb, 5, none⟩) (Kd.R_far (p := ⟨gb, 4, none⟩) (Kd.R_far (p := ⟨gb, 3, none⟩) (Kd.R_far (p := ⟨gb, 2, none⟩) (Kd.R_far (p := ⟨gb, 1, none⟩) (Kd.R_far (p := ⟨gb, 0, none⟩) (Kd.R_mono (Kd.R_bound HO.out) (fun k hk => (show k ≠ gb by have h1 := hk.2.1; have h2 := HLT.out; omega))) (fun _ hk => hk) (.slice A9 g.length c9)) (fun _ hk => hk) (.slice A2 n2 c2)) (fun _ hk => hk) (.slice A3 n3 c3)) (fun _ hk => hk) (.int .u64 a4)) (fun _ hk => hk) (.bool (Int.tmod a5 2 == 0))) (fun _ hk => hk) (.bool ((Int.tdiv a5 2) % 2 == 0)))
  have HBB : Aside0 (Below w.heap.size w ((((((w9.setCell ⟨gb, 0, none⟩ (.slice A9 g.length c9)).setCell ⟨gb, 1, none⟩ (.slice A2 n2 c2)).setCell ⟨gb, 2, none⟩ (.slice A3 n3 c3)).setCell ⟨gb, 3, none⟩ (.int .u64 a4)).setCell ⟨gb, 4, none⟩ (.bool (Int.tmod a5 2 == 0))).setCell ⟨gb, 5, none⟩ (.bool ((Int.tdiv a5 2) % 2 == 0)))) := ⟨(below_set (below_set (below_set (below_set (below_set (below_set HB9.out HGE.out) HGE.out) HGE.out) HGE.out) HGE.out) HGE.out)⟩
  refine bodyPost_ret (results_cell_row rfl _ _ gb 31 #[.slice A9 g.length c9, .slice A2 n2 c2, .slice A3 n3 c3, .int .u64 a4, .bool (Int.tmod a5 2 == 0), .bool ((Int.tdiv a5 2) % 2 == 0)] (0, 0) _ rfl HBX.out Try.underlying31 rfl (by kernel_rfl)) rfl ?_
  exact ⟨_, _, rfl, HC9.out, (Kd.R_reads' HRX.out).2.2, HBB.out⟩

/-! ### interlocklaw13_FlowSolves: function 4 -/
def sumS (ss : List (List Int)) (j : Nat) : Int := (ss.take j).foldl (fun a l => wrap64 (a + wrap64 (1 + (l.length : Int)))) 0
theorem sumS_succ (ss : List (List Int)) (j : Nat) (hj : j < ss.length) : sumS ss (j + 1) = wrap64 (sumS ss j + wrap64 (1 + ((ss.getD j []).length : Int))) := by
  unfold sumS
  rw [List.take_add_one, List.foldl_append, List.getD_eq_getElem?_getD, List.getElem?_eq_getElem hj]
  rfl
def interlocklaw13_FlowSolves.f (k : Nat) (l0_0 : List (List Int)) (l0_1 : List Int) (l0_2 : List Int) (a0_3 : Int) (a0_4 : Bool) (a0_5 : Bool) (a1 : Int) (l2 : List Int) (l3 : List Int) (l4 : List Int) (a5 : Int) (a6 : Int) : Option Bool := (interlocklaw13_known.f k).bind fun kn => if kn = true then (if sumS l0_0 l0_0.length > 100 then some true else if (l3.length : Int) > 70 then some true else if (l4.length : Int) > 70 then some true else (interlocklaw13_tells.f k l0_0 l0_1 l0_2 a0_3 a0_4 a0_5).bind fun t => if t = true then ((interlocklaw10_Graph.f k a1 l2).bind fun g => (interlocklaw13_tells.f k g l3 l4 a5 (mOf a6) (bOf a6)).bind fun t2 => if t2 = true then some true else none) else none) else none
theorem interlocklaw13_FlowSolves.mono : ∀ a0 a1 a2 a3 a4 a5 a6 a7 a8 a9 a10 a11 k, LeO (interlocklaw13_FlowSolves.f k a0 a1 a2 a3 a4 a5 a6 a7 a8 a9 a10 a11) (interlocklaw13_FlowSolves.f (k + 1) a0 a1 a2 a3 a4 a5 a6 a7 a8 a9 a10 a11) := by
  intro a0 a1 a2 a3 a4 a5 a6 a7 a8 a9 a10 a11 k
  unfold interlocklaw13_FlowSolves.f
  exact LeO.bind (interlocklaw13_known.mono k) (fun kn => LeO.ite (LeO.ite (LeO.refl _) (LeO.ite (LeO.refl _) (LeO.ite (LeO.refl _) (LeO.bind (interlocklaw13_tells.mono _ _ _ _ _ _ k) (fun t => LeO.ite (LeO.bind (interlocklaw10_Graph.mono _ _ k) (fun g => LeO.bind (interlocklaw13_tells.mono _ _ _ _ _ _ k) (fun t2 => LeO.refl _))) (LeO.refl _)))))) (LeO.refl _))
set_option maxHeartbeats 8000000 in
set_option maxRecDepth 100000 in
theorem interlocklaw13_FlowSolves.calls (k : Nat) (A0_0 : Option Addr) (c0_0 : Nat) (l0_0 : List (List Int)) (A0_1 : Option Addr) (c0_1 : Nat) (l0_1 : List Int) (A0_2 : Option Addr) (c0_2 : Nat) (l0_2 : List Int) (a0_3 : Int) (a0_4 : Bool) (a0_5 : Bool) (a1 : Int) (A2 : Option Addr) (c2 : Nat) (l2 : List Int) (A3 : Option Addr) (c3 : Nat) (l3 : List Int) (A4 : Option Addr) (c4 : Nat) (l4 : List Int) (a5 : Int) (a6 : Int) (r : Bool) (w : World) (hr0_0 : Kd.C (Kd.slice 3 (Kd.int .i64)) w A0_0 l0_0.length l0_0) (hc0_0 : l0_0.length ≤ c0_0) (hr0_1 : Kd.C (Kd.int .u64) w A0_1 l0_1.length l0_1) (hc0_1 : l0_1.length ≤ c0_1) (hr0_2 : Kd.C (Kd.int .u64) w A0_2 l0_2.length l0_2) (hc0_2 : l0_2.length ≤ c0_2) (hr2 : Kd.C (Kd.int .u8) w A2 l2.length l2) (hc2 : l2.length ≤ c2) (hr3 : Kd.C (Kd.int .u64) w A3 l3.length l3) (hc3 : l3.length ≤ c3) (hr4 : Kd.C (Kd.int .u64) w A4 l4.length l4) (hc4 : l4.length ≤ c4) (h : interlocklaw13_FlowSolves.f k l0_0 l0_1 l0_2 a0_3 a0_4 a0_5 a1 l2 l3 l4 a5 a6 = some r) :
    Calls Try.prog 4 #[.agg #[.slice A0_0 l0_0.length c0_0, .slice A0_1 l0_1.length c0_1, .slice A0_2 l0_2.length c0_2, .int .u64 a0_3, .bool a0_4, .bool a0_5], .int .u8 a1, .slice A2 l2.length c2, .slice A3 l3.length c3, .slice A4 l4.length c4, .int .u64 a5, .int .u8 a6] w fun e w' => e = .returned (.bool r) ∧ Below w.heap.size w w' := by
  have hu31 := Try.underlying31
  have HRS := Aside0.mk hr0_0
  have HRG := Aside0.mk hr0_1
  have HRK := Aside0.mk hr0_2
  have HR2 := Aside0.mk hr2
  have HR3 := Aside0.mk hr3
  have HR4 := Aside0.mk hr4
  have HCS := Aside0.mk hc0_0
  have HCG := Aside0.mk hc0_1
  have HCK := Aside0.mk hc0_2
  have HC2 := Aside0.mk hc2
  have HC3 := Aside0.mk hc3
  have HC4 := Aside0.mk hc4
  have hmS := Kd.C_max hr0_0
  clear hr0_0 hr0_1 hr0_2 hr2 hr3 hr4 hc0_0 hc0_1 hc0_2 hc2 hc3 hc4
  unfold interlocklaw13_FlowSolves.f at h
  obtain ⟨kn, hk, h⟩ := Option.bind_eq_some_iff.1 h
  cases kn with
  | false => cases h
  | true =>
  rw [if_pos rfl] at h
  have HK := Aside0.mk hk
  have H := Aside0.mk h
  clear hk h
  go_enter Try.func4, Try.ntmps4
  go_wp2_with ((with_reducible refine gate_dst (N := 7) rfl ?_); refine box_event ?hg (N := 7) ?hd (cs := #[.slice A0_0 l0_0.length c0_0, .slice A0_1 l0_1.length c0_1, .slice A0_2 l0_2.length c0_2, .int .u64 a0_3, .bool a0_4, .bool a0_5]) (t := 31) ?hr ?_; (case hd => rfl); (case hg => rfl); (case hr => first | (go_simp; done) | (go_simp; rfl)); intro gp hg w0 hbox hb; have HX := Aside0.mk hbox; have HB0 := Aside0.mk hb; clear hg hbox hb; have hc0 := (blk_cell HX.out 0).trans rfl)
  go_loopw [15, 16] (fun v15 v16 wr => ∃ j : Nat, j ≤ l0_0.length ∧ v16 = .int .i64 (j : Int) ∧ v15 = .int .i64 (sumS l0_0 j) ∧ Aside0 (Below w0.heap.size w0 wr)) (fun _ v16 _ => l0_0.length - (intOf v16).toNat)
  case atStart => exact ⟨0, Nat.zero_le _, rfl, rfl, ⟨Below.refl _ _⟩⟩
  case round =>
    obtain ⟨j, hj, rfl, rfl, HW⟩ := hrel
    by_cases hlt : j < l0_0.length
    · obtain ⟨ad, A9, c9, e9, h9, _, _⟩ := at_L1 (Kd.C_below (Kd.C_below HRS.out HB0.out) HW.out) (j : Int) (by omega) (by omega)
      cases e9
      have hy0 := pw_cell_below HW.out hc0
      rw [show rd_L1 l0_0 (j : Int) = l0_0.getD j [] by unfold rd_L1; rw [Int.toNat_natCast], Int.toNat_natCast] at h9
      have HSU := Aside0.mk (sumS_succ l0_0 j hlt)
      have pj0 := eq_true (show (0 : Int) ≤ (j : Int) by omega)
      have pj1 := eq_true (show (j : Int) < (l0_0.length : Int) by omega)
      go_wp2
      go_roundw
      case rel => exact ⟨j + 1, by omega, by go_num, by rw [HSU.out, List.getD_eq_getElem?_getD, List.getElem?_eq_getElem hlt]; rfl, HW⟩
      case measure => simp [intOf]; omega
    · obtain rfl : j = l0_0.length := by omega
      have hx := H.out
      have HBW := Aside0.mk (below_step HB0.out HW.out)
      have hy0 := pw_cell_below HW.out ((blk_cell HX.out 0).trans (show (#[.slice A0_0 l0_0.length c0_0, .slice A0_1 l0_1.length c0_1, .slice A0_2 l0_2.length c0_2, .int .u64 a0_3, .bool a0_4, .bool a0_5] : Array Value)[0]? = some (.slice A0_0 l0_0.length c0_0) from rfl))
      have hy1 := pw_cell_below HW.out ((blk_cell HX.out 1).trans (show (#[.slice A0_0 l0_0.length c0_0, .slice A0_1 l0_1.length c0_1, .slice A0_2 l0_2.length c0_2, .int .u64 a0_3, .bool a0_4, .bool a0_5] : Array Value)[1]? = some (.slice A0_1 l0_1.length c0_1) from rfl))
      have hy2 := pw_cell_below HW.out ((blk_cell HX.out 2).trans (show (#[.slice A0_0 l0_0.length c0_0, .slice A0_1 l0_1.length c0_1, .slice A0_2 l0_2.length c0_2, .int .u64 a0_3, .bool a0_4, .bool a0_5] : Array Value)[2]? = some (.slice A0_2 l0_2.length c0_2) from rfl))
      have hy3 := pw_cell_below HW.out ((blk_cell HX.out 3).trans (show (#[.slice A0_0 l0_0.length c0_0, .slice A0_1 l0_1.length c0_1, .slice A0_2 l0_2.length c0_2, .int .u64 a0_3, .bool a0_4, .bool a0_5] : Array Value)[3]? = some (.int .u64 a0_3) from rfl))
      have hy4 := pw_cell_below HW.out ((blk_cell HX.out 4).trans (show (#[.slice A0_0 l0_0.length c0_0, .slice A0_1 l0_1.length c0_1, .slice A0_2 l0_2.length c0_2, .int .u64 a0_3, .bool a0_4, .bool a0_5] : Array Value)[4]? = some (.bool a0_4) from rfl))
      have hy5 := pw_cell_below HW.out ((blk_cell HX.out 5).trans (show (#[.slice A0_0 l0_0.length c0_0, .slice A0_1 l0_1.length c0_1, .slice A0_2 l0_2.length c0_2, .int .u64 a0_3, .bool a0_4, .bool a0_5] : Array Value)[5]? = some (.bool a0_5) from rfl))
      clear hc0 H
      by_cases b1 : sumS l0_0 l0_0.length > 100
      · rw [if_pos b1] at hx
        have d1 : decide (100 < sumS l0_0 l0_0.length) = true := decide_eq_true b1
        obtain rfl := Option.some.inj hx
        clear hx b1
        go_wp2_with (go_at_call 8; (with_reducible refine (interlocklaw13_known.calls k true _ HK.out).mono ?_); rintro e w2 ⟨rfl, hb⟩; have HB2 := Aside0.mk (below_step HBW.out hb); clear hb)
        go_ret
        exact ⟨rfl, HB2.out⟩
      rw [if_neg b1] at hx
      have d1 : decide (100 < sumS l0_0 l0_0.length) = false := decide_eq_false b1
      by_cases b3 : (l3.length : Int) > 70
      · rw [if_pos b3] at hx
        have db3 : decide (70 < (l3.length : Int)) = true := decide_eq_true b3
        have nb3 : decide (70 < l3.length) = true := decide_eq_true (by omega)
        obtain rfl := Option.some.inj hx
        clear hx b1 b3
        go_wp2_with (go_at_call 8; (with_reducible refine (interlocklaw13_known.calls k true _ HK.out).mono ?_); rintro e w2 ⟨rfl, hb⟩; have HB2 := Aside0.mk (below_step HBW.out hb); clear hb)
        go_ret
        exact ⟨rfl, HB2.out⟩
      rw [if_neg b3] at hx
      have db3 : decide (70 < (l3.length : Int)) = false := decide_eq_false b3
      have nb3 : decide (70 < l3.length) = false := decide_eq_false (by omega)
      by_cases b4 : (l4.length : Int) > 70
      · rw [if_pos b4] at hx
        have db4 : decide (70 < (l4.length : Int)) = true := decide_eq_true b4
        have nb4 : decide (70 < l4.length) = true := decide_eq_true (by omega)
        obtain rfl := Option.some.inj hx
        clear hx b1 b3 b4
        go_wp2_with (go_at_call 8; (with_reducible refine (interlocklaw13_known.calls k true _ HK.out).mono ?_); rintro e w2 ⟨rfl, hb⟩; have HB2 := Aside0.mk (below_step HBW.out hb); clear hb)
        go_ret
        exact ⟨rfl, HB2.out⟩
      rw [if_neg b4] at hx
      have db4 : decide (70 < (l4.length : Int)) = false := decide_eq_false b4
      have nb4 : decide (70 < l4.length) = false := decide_eq_false (by omega)
      obtain ⟨t, ht, hx⟩ := Option.bind_eq_some_iff.1 hx
      by_cases h1 : t = true
      case neg => rw [if_neg h1] at hx; cases hx
      rw [if_pos h1] at hx
      subst h1
      obtain ⟨g, hG, hx⟩ := Option.bind_eq_some_iff.1 hx
      obtain ⟨t2, ht2, hx⟩ := Option.bind_eq_some_iff.1 hx
      by_cases h2 : t2 = true
      case neg => rw [if_neg h2] at hx; cases hx
      rw [if_pos h2] at hx
      subst h2
      obtain rfl := Option.some.inj hx
      have HT := Aside0.mk ht
      have HG := Aside0.mk hG
      have HT2 := Aside0.mk ht2
      clear hx ht hG ht2 b1 b3 b4
      go_wp2_with (first | (go_at_call 8; (with_reducible refine (interlocklaw13_known.calls k true _ HK.out).mono ?_); rintro e w2 ⟨rfl, hb⟩; have HB2 := Aside0.mk (below_step HBW.out hb); have hbz := hb; clear hb; have hz0 := pw_cell_below hbz hy0; have hz1 := pw_cell_below hbz hy1; have hz2 := pw_cell_below hbz hy2; have hz3 := pw_cell_below hbz hy3; have hz4 := pw_cell_below hbz hy4; have hz5 := pw_cell_below hbz hy5; clear hbz hy0 hy1 hy2 hy3 hy4 hy5) | (go_at_call 11; (with_reducible refine (interlocklaw13_tells.calls k A0_0 c0_0 l0_0 A0_1 c0_1 l0_1 A0_2 c0_2 l0_2 a0_3 a0_4 a0_5 true _ (Kd.C_below HRS.out HB2.out) HCS.out (Kd.C_below HRG.out HB2.out) HCG.out (Kd.C_below HRK.out HB2.out) HCK.out HT.out).mono ?_); rintro e w3 ⟨rfl, hb⟩; have HB3 := Aside0.mk (below_step HB2.out hb); clear hb) | (go_at_call 12; refine (prob_any k a1 A2 c2 l2 A3 A4 l3.length c3 l4.length c4 a5 a6 g _ (Kd.C_below HR2.out HB3.out) HC2.out HG.out).mono ?_; rintro e w4 ⟨Ag, cg, rfl, hcg, hrg, hb⟩; have HCG4 := Aside0.mk hcg; have HRG4 := Aside0.mk hrg; have HB4 := Aside0.mk (below_step HB3.out hb); clear hcg hrg hb) | (go_at_call 11; (refine (interlocklaw13_tells.calls k Ag cg g A3 c3 l3 A4 c4 l4 a5 (mOf a6) (bOf a6) true _ HRG4.out HCG4.out (Kd.C_below HR3.out HB4.out) HC3.out (Kd.C_below HR4.out HB4.out) HC4.out HT2.out).mono ?_); rintro e w5 ⟨rfl, hb⟩; have HB5 := Aside0.mk (below_step HB4.out hb); clear hb))
      go_ret
      exact ⟨rfl, HB5.out⟩

end Go.Proofs.Ytfiemikganhgeaa.P
