-- written by this project's xprint.py (a turn of the kit's printer; its own texts among them)
import Derived.Test.YtkkhjfkgfmodnaaPx0
namespace Go.Proofs.Ytkkhjfkgfmodnaa.P
open Go.RowKit Go.Proofs.YtkkhjfkgfmodnaaW.PrintWords Go.Proofs.YtkkhjfkgfmodnaaW.PrintLast Go.Proofs.YtkkhjfkgfmodnaaW.PrintMore
attribute [local go_sem] max2_int min2_int max_two min_two max_three min_three max_four min_four   -- for this text's walks alone
attribute [local irreducible] Calls
set_option linter.unusedVariables false
set_option linter.unusedSimpArgs false

/-! ### interlockref02_many: function 46 -/
def interlockref02_many.j0 : Nat → Int → Int → Bool → Int → Int → Int → List Int → Int → Int → List (List (S30)) → Option (Int)
  | 0, _, _, _, _, _, _, _, _, _, _ => none
  | k + 1, x2, x7, x8, x282000, x282001, x282002, x282003, x282004, x282005, x282006 => if x8 = true then (some 4) else (if x7 = 4 then (some x282000) else (if x7 = 5 then (some (wrap64 (x2 + 1))) else (if x7 = 6 then (some (x282006.length : Int)) else (if x7 = 7 then (some x282002) else (if x7 = 8 then (some x282001) else (if x7 = 9 then (some (x282003.length : Int)) else (if x7 = 10 then (some x282004) else (some x282005))))))))
def interlockref02_many.f (k : Nat) (a0_0 : Int) (a0_1 : Int) (a0_2 : Int) (l0_3 : List Int) (a0_4 : Int) (a0_5 : Int) (l0_6 : List (List (S30))) (a1 : Int) (a2 : Int) : Option (Int) := if a1 = 2 then (interlockref02_many.j0 k a2 a1 (a1 == 2) a0_0 a0_1 a0_2 l0_3 a0_4 a0_5 l0_6) else (interlockref02_many.j0 k a2 a1 (a1 == 3) a0_0 a0_1 a0_2 l0_3 a0_4 a0_5 l0_6)
theorem interlockref02_many.mono_l : ∀ k, (∀ y0 y1 y2 y3 y4 y5 y6 y7 y8 y9, LeO (interlockref02_many.j0 k y0 y1 y2 y3 y4 y5 y6 y7 y8 y9) (interlockref02_many.j0 (k + 1) y0 y1 y2 y3 y4 y5 y6 y7 y8 y9))
  | 0 => fun _ _ _ _ _ _ _ _ _ _ r h => by simp [interlockref02_many.j0] at h
  | k + 1 => by
    have ih0 := interlockref02_many.mono_l k
    · intro y0 y1 y2 y3 y4 y5 y6 y7 y8 y9
      unfold interlockref02_many.j0
      repeat' first
      | (with_reducible exact ih0 _ _ _ _ _ _ _ _ _ _)
      | (with_reducible exact LeO.refl _)
      | (with_reducible exact LeO.none _)
      | (with_reducible refine LeO.ite ?_ ?_)
      | (with_reducible refine LeO.bind ?_ (fun _ => ?_))
      | exact ih0 _ _ _ _ _ _ _ _ _ _
      | exact LeO.none _
      | refine LeO.ite ?_ ?_
      | refine LeO.bind ?_ (fun _ => ?_)
theorem interlockref02_many.mono : ∀ a0 a1 a2 a3 a4 a5 a6 a7 a8 k, LeO (interlockref02_many.f k a0 a1 a2 a3 a4 a5 a6 a7 a8) (interlockref02_many.f (k + 1) a0 a1 a2 a3 a4 a5 a6 a7 a8) := by
  intro a0 a1 a2 a3 a4 a5 a6 a7 a8 k
  have ih0 := interlockref02_many.mono_l k
  unfold interlockref02_many.f
  repeat' first
      | (with_reducible exact ih0 _ _ _ _ _ _ _ _ _ _)
      | (with_reducible exact LeO.refl _)
      | (with_reducible exact LeO.none _)
      | (with_reducible refine LeO.ite ?_ ?_)
      | (with_reducible refine LeO.bind ?_ (fun _ => ?_))
      | exact ih0 _ _ _ _ _ _ _ _ _ _
      | exact LeO.none _
      | refine LeO.ite ?_ ?_
      | refine LeO.bind ?_ (fun _ => ?_)
set_option maxHeartbeats 8000000 in
set_option maxRecDepth 100000 in
theorem interlockref02_many.calls (k : Nat) (a0_0 : Int) (a0_1 : Int) (a0_2 : Int) (A0_3 : Option Addr) (c0_3 : Nat) (l0_3 : List Int) (a0_4 : Int) (a0_5 : Int) (A0_6 : Option Addr) (c0_6 : Nat) (l0_6 : List (List (S30))) (a1 : Int) (a2 : Int) (r : Int) (w : World) (hr0_3 : Kd.C (Kd.int .i64) w A0_3 l0_3.length l0_3) (hc0_3 : l0_3.length ≤ c0_3) (hr0_6 : Kd.C (Kd.slice 30 k30) w A0_6 l0_6.length l0_6) (hc0_6 : l0_6.length ≤ c0_6) (h : interlockref02_many.f k a0_0 a0_1 a0_2 l0_3 a0_4 a0_5 l0_6 a1 a2 = some r) :
    Calls Try.prog 46 #[.agg #[.int .i64 a0_0, .int .i64 a0_1, .int .i64 a0_2, .slice A0_3 l0_3.length c0_3, .int .i64 a0_4, .int .i64 a0_5, .slice A0_6 l0_6.length c0_6], .int .i64 a1, .int .i64 a2] w fun e w' => e = .returned (.int .i64 r) ∧ Below w.heap.size w w' := by
 have hu26 := Try.underlying26
 have HR0_3 := Aside0.mk hr0_3
 have HC0_3 := Aside0.mk hc0_3
 clear hr0_3 hc0_3
 have HR0_6 := Aside0.mk hr0_6
 have HC0_6 := Aside0.mk hc0_6
 clear hr0_6 hc0_6
 have HB := Aside0.mk (Below.refl w.heap.size w)
 have H : (if a1 = 2 then (interlockref02_many.j0 k a2 a1 (a1 == 2) a0_0 a0_1 a0_2 l0_3 a0_4 a0_5 l0_6) else (interlockref02_many.j0 k a2 a1 (a1 == 3) a0_0 a0_1 a0_2 l0_3 a0_4 a0_5 l0_6)) = some r := h
 clear h
 have HC4 := Aside0.mk H
 clear H
 go_enter Try.func46, Try.ntmps46
 go_upto_if 8 with (first | ((with_reducible refine gate_dst (N := 3) rfl ?_); refine box_event ?hg (N := 3) ?hd (cs := #[.int .i64 a0_0, .int .i64 a0_1, .int .i64 a0_2, .slice A0_3 l0_3.length c0_3, .int .i64 a0_4, .int .i64 a0_5, .slice A0_6 l0_6.length c0_6]) (t := 26) ?hr ?_; (case hd => rfl); (case hg => rfl); (case hr => first | (go_simp; done) | (go_simp; rfl)); intro gb281 hg w5 hbox hb; have n0_ := Aside0.mk (below_step (by repeat (first | (with_reducible first | exact HB.out | apply below_alloc | apply pw_below_drewN | apply below_drew1) | exact HB.out)) hb); have n1_ := Aside0.mk (hbox); have n2_ := Aside0.mk ((by rw [hg]; exact (below_size (by repeat (first | (with_reducible first | exact HB.out | apply below_alloc | apply pw_below_drewN | apply below_drew1) | exact HB.out))) : w.heap.size ≤ gb281)); have n3_ := Aside0.mk ((by rw [hg]; exact (below_size (by repeat (first | (with_reducible first | exact HB.out | apply below_alloc | apply pw_below_drewN | apply below_drew1) | exact HB.out))) : w.heap.size ≤ gb281)); clear HB; have HB := n0_; have BK281 := n1_; have GW281 := n2_; have GE281 := n3_; clear n0_ n1_ n2_ n3_; clear hb hbox hg))
 (try simp only [Act.put, List.setIfInBounds_toArray, List.set_cons_zero, List.set_cons_succ])
 go_cut [8] (fun v8 wc => ∃ (kq : Nat) (x8_3 : Bool), v8 = .bool x8_3 ∧ Aside0 (interlockref02_many.j0 kq a2 a1 x8_3 a0_0 a0_1 a0_2 l0_3 a0_4 a0_5 l0_6 = some r) ∧ Aside0 (kq ≤ k) ∧ Aside0 (wc.heap[gb281]? = some (.cells #[.int .i64 a0_0, .int .i64 a0_1, .int .i64 a0_2, (.slice A0_3 l0_3.length c0_3), .int .i64 a0_4, .int .i64 a0_5, (.slice A0_6 l0_6.length c0_6)] 26 (0, 0))) ∧ Aside0 (Below w.heap.size w wc))
 case first => (
 have H := HC4.out
 clear HC4
 by_cases c6 : a1 = 2
 {
 rw [if_pos c6] at H
 have c6b0 : (a1 == 2) = true := beq_iff_eq.mpr c6
 have c6b1 : (a1 != 2) = false := bne_eq_false_iff_eq.mpr c6
 clear c6
 (first | rw [c6b0] | (simp only [i64_w, i32_w]; rw [c6b0]) | skip)
 have H' := Aside0.mk H
 clear H
 go_wp2
 go_meet
 case rel => exact ⟨_, ((a1 == 2)), (by first | rfl | (simp; done) | (simp [*]; done)), H', ⟨by first | omega | exact Nat.le_refl _⟩, ⟨by (with_reducible repeat (first | refine blk_drewN ?_ _ | refine blk_drew ?_ | refine blk_alloc ?_ _)); exact BK281.out⟩, ⟨by repeat (first | (with_reducible first | exact HB.out | apply below_alloc | apply pw_below_drewN | apply below_drew1 | refine below_set ?_ GE281.out) | exact HB.out)⟩⟩
 }
 {
 rw [if_neg c6] at H
 have c6b0 : (a1 == 2) = false := beq_eq_false_iff_ne.mpr c6
 have c6b1 : (a1 != 2) = true := bne_iff_ne.mpr c6
 (first | rw [c6b0] | (simp only [i64_w, i32_w]; rw [c6b0]) | skip)
 have H' := Aside0.mk H
 clear H
 go_wp2
 go_meet
 case rel => exact ⟨_, ((a1 == 3)), (by first | rfl | (simp; done) | (simp [*]; done)), H', ⟨by first | omega | exact Nat.le_refl _⟩, ⟨by (with_reducible repeat (first | refine blk_drewN ?_ _ | refine blk_drew ?_ | refine blk_alloc ?_ _)); exact BK281.out⟩, ⟨by repeat (first | (with_reducible first | exact HB.out | apply below_alloc | apply pw_below_drewN | apply below_drew1 | refine below_set ?_ GE281.out) | exact HB.out)⟩⟩
 }
 )
 case rest => (
 clear HC4
 try clear p2
 try clear c4
 try clear c6
 try clear c6b0
 try clear c6b1
 obtain ⟨kq, x8_3, rfl, HA, HJ3, BK281, HB⟩ := hcut
 cases kq with
 | zero => exact absurd HA.out (by simp [interlockref02_many.j0])
 | succ kj3 => (
 have H := HA.out
 clear HA
 simp only [interlockref02_many.j0] at H
 by_cases c7 : x8_3 = true
 {
 subst c7
 have H1 : (some 4) = some r := by rw [if_pos rfl] at H; exact H
 clear H
 have H := H1
 clear H1
 obtain rfl := Option.some.inj H
 go_wp2
 go_ret
 exact ⟨by first | rfl | (simp [errW_none, errW_some] <;> rfl) | (simp [*, errW_none, errW_some] <;> rfl), by repeat (first | (with_reducible first | exact HB.out | apply below_alloc | apply pw_below_drewN | apply below_drew1 | refine below_set ?_ GE281.out) | exact HB.out)⟩
 }
 {
 replace c7 := Bool.eq_false_iff.mpr c7
 subst c7
 have H1 : (if a1 = 4 then (some a0_0) else (if a1 = 5 then (some (wrap64 (a2 + 1))) else (if a1 = 6 then (some (l0_6.length : Int)) else (if a1 = 7 then (some a0_2) else (if a1 = 8 then (some a0_1) else (if a1 = 9 then (some (l0_3.length : Int)) else (if a1 = 10 then (some a0_4) else (some a0_5)))))))) = some r := by rw [if_neg (show ¬ (false = true) by decide)] at H; exact H
 clear H
 have H := H1
 clear H1
 by_cases c8 : a1 = 4
 {
 rw [if_pos c8] at H
 have c8b0 : (a1 == 4) = true := beq_iff_eq.mpr c8
 have c8b1 : (a1 != 4) = false := bne_eq_false_iff_eq.mpr c8
 clear c8
 obtain rfl := Option.some.inj H
 have hcz9_0 : wc.cell? ⟨gb281, 0, none⟩ = some (.int .i64 a0_0) := (blk_cell BK281.out 0).trans rfl
 have hcz9_1 : wc.cell? ⟨gb281, 1, none⟩ = some (.int .i64 a0_1) := (blk_cell BK281.out 1).trans rfl
 have hcz9_2 : wc.cell? ⟨gb281, 2, none⟩ = some (.int .i64 a0_2) := (blk_cell BK281.out 2).trans rfl
 have hcz9_3 : wc.cell? ⟨gb281, 3, none⟩ = some (.slice A0_3 l0_3.length c0_3) := (blk_cell BK281.out 3).trans rfl
 have hcz9_4 : wc.cell? ⟨gb281, 4, none⟩ = some (.int .i64 a0_4) := (blk_cell BK281.out 4).trans rfl
 have hcz9_5 : wc.cell? ⟨gb281, 5, none⟩ = some (.int .i64 a0_5) := (blk_cell BK281.out 5).trans rfl
 have hcz9_6 : wc.cell? ⟨gb281, 6, none⟩ = some (.slice A0_6 l0_6.length c0_6) := (blk_cell BK281.out 6).trans rfl
 have hfz9_0 := blk_frozen BK281.out 0
 have hfz9_1 := blk_frozen BK281.out 1
 have hfz9_2 := blk_frozen BK281.out 2
 have hfz9_3 := blk_frozen BK281.out 3
 have hfz9_4 := blk_frozen BK281.out 4
 have hfz9_5 := blk_frozen BK281.out 5
 have hfz9_6 := blk_frozen BK281.out 6
 go_wp2
 go_ret
 exact ⟨by first | rfl | (simp [errW_none, errW_some] <;> rfl) | (simp [*, errW_none, errW_some] <;> rfl), by repeat (first | (with_reducible first | exact HB.out | apply below_alloc | apply pw_below_drewN | apply below_drew1 | refine below_set ?_ GE281.out) | exact HB.out)⟩
 }
 {
 rw [if_neg c8] at H
 have c8b0 : (a1 == 4) = false := beq_eq_false_iff_ne.mpr c8
 have c8b1 : (a1 != 4) = true := bne_iff_ne.mpr c8
 by_cases c10 : a1 = 5
 {
 rw [if_pos c10] at H
 have c10b0 : (a1 == 5) = true := beq_iff_eq.mpr c10
 have c10b1 : (a1 != 5) = false := bne_eq_false_iff_eq.mpr c10
 clear c10
 obtain rfl := Option.some.inj H
 go_wp2
 go_ret
 exact ⟨by first | rfl | (simp [errW_none, errW_some] <;> rfl) | (simp [*, errW_none, errW_some] <;> rfl), by repeat (first | (with_reducible first | exact HB.out | apply below_alloc | apply pw_below_drewN | apply below_drew1 | refine below_set ?_ GE281.out) | exact HB.out)⟩
 }
 {
 rw [if_neg c10] at H
 have c10b0 : (a1 == 5) = false := beq_eq_false_iff_ne.mpr c10
 have c10b1 : (a1 != 5) = true := bne_iff_ne.mpr c10
 by_cases c11 : a1 = 6
 {
 rw [if_pos c11] at H
 have c11b0 : (a1 == 6) = true := beq_iff_eq.mpr c11
 have c11b1 : (a1 != 6) = false := bne_eq_false_iff_eq.mpr c11
 clear c11
 obtain rfl := Option.some.inj H
 have hcz12_0 : wc.cell? ⟨gb281, 0, none⟩ = some (.int .i64 a0_0) := (blk_cell BK281.out 0).trans rfl
 have hcz12_1 : wc.cell? ⟨gb281, 1, none⟩ = some (.int .i64 a0_1) := (blk_cell BK281.out 1).trans rfl
 have hcz12_2 : wc.cell? ⟨gb281, 2, none⟩ = some (.int .i64 a0_2) := (blk_cell BK281.out 2).trans rfl
 have hcz12_3 : wc.cell? ⟨gb281, 3, none⟩ = some (.slice A0_3 l0_3.length c0_3) := (blk_cell BK281.out 3).trans rfl
 have hcz12_4 : wc.cell? ⟨gb281, 4, none⟩ = some (.int .i64 a0_4) := (blk_cell BK281.out 4).trans rfl
 have hcz12_5 : wc.cell? ⟨gb281, 5, none⟩ = some (.int .i64 a0_5) := (blk_cell BK281.out 5).trans rfl
 have hcz12_6 : wc.cell? ⟨gb281, 6, none⟩ = some (.slice A0_6 l0_6.length c0_6) := (blk_cell BK281.out 6).trans rfl
 have hfz12_0 := blk_frozen BK281.out 0
 have hfz12_1 := blk_frozen BK281.out 1
 have hfz12_2 := blk_frozen BK281.out 2
 have hfz12_3 := blk_frozen BK281.out 3
 have hfz12_4 := blk_frozen BK281.out 4
 have hfz12_5 := blk_frozen BK281.out 5
 have hfz12_6 := blk_frozen BK281.out 6
 go_wp2
 go_ret
 exact ⟨by first | rfl | (simp [errW_none, errW_some] <;> rfl) | (simp [*, errW_none, errW_some] <;> rfl), by repeat (first | (with_reducible first | exact HB.out | apply below_alloc | apply pw_below_drewN | apply below_drew1 | refine below_set ?_ GE281.out) | exact HB.out)⟩
 }
 {
 rw [if_neg c11] at H
 have c11b0 : (a1 == 6) = false := beq_eq_false_iff_ne.mpr c11
 have c11b1 : (a1 != 6) = true := bne_iff_ne.mpr c11
 by_cases c13 : a1 = 7
 {
 rw [if_pos c13] at H
 have c13b0 : (a1 == 7) = true := beq_iff_eq.mpr c13
 have c13b1 : (a1 != 7) = false := bne_eq_false_iff_eq.mpr c13
 clear c13
 obtain rfl := Option.some.inj H
 have hcz14_0 : wc.cell? ⟨gb281, 0, none⟩ = some (.int .i64 a0_0) := (blk_cell BK281.out 0).trans rfl
 have hcz14_1 : wc.cell? ⟨gb281, 1, none⟩ = some (.int .i64 a0_1) := (blk_cell BK281.out 1).trans rfl
 have hcz14_2 : wc.cell? ⟨gb281, 2, none⟩ = some (.int .i64 a0_2) := (blk_cell BK281.out 2).trans rfl
 have hcz14_3 : wc.cell? ⟨gb281, 3, none⟩ = some (.slice A0_3 l0_3.length c0_3) := (blk_cell BK281.out 3).trans rfl
 have hcz14_4 : wc.cell? ⟨gb281, 4, none⟩ = some (.int .i64 a0_4) := (blk_cell BK281.out 4).trans rfl
 have hcz14_5 : wc.cell? ⟨gb281, 5, none⟩ = some (.int .i64 a0_5) := (blk_cell BK281.out 5).trans rfl
 have hcz14_6 : wc.cell? ⟨gb281, 6, none⟩ = some (.slice A0_6 l0_6.length c0_6) := (blk_cell BK281.out 6).trans rfl
 have hfz14_0 := blk_frozen BK281.out 0
 have hfz14_1 := blk_frozen BK281.out 1
 have hfz14_2 := blk_frozen BK281.out 2
 have hfz14_3 := blk_frozen BK281.out 3
 have hfz14_4 := blk_frozen BK281.out 4
 have hfz14_5 := blk_frozen BK281.out 5
 have hfz14_6 := blk_frozen BK281.out 6
 go_wp2
 go_ret
 exact ⟨by first | rfl | (simp [errW_none, errW_some] <;> rfl) | (simp [*, errW_none, errW_some] <;> rfl), by repeat (first | (with_reducible first | exact HB.out | apply below_alloc | apply pw_below_drewN | apply below_drew1 | refine below_set ?_ GE281.out) | exact HB.out)⟩
 }
 {
 rw [if_neg c13] at H
 have c13b0 : (a1 == 7) = false := beq_eq_false_iff_ne.mpr c13
 have c13b1 : (a1 != 7) = true := bne_iff_ne.mpr c13
 by_cases c15 : a1 = 8
 {
 rw [if_pos c15] at H
 have c15b0 : (a1 == 8) = true := beq_iff_eq.mpr c15
 have c15b1 : (a1 != 8) = false := bne_eq_false_iff_eq.mpr c15
 clear c15
 obtain rfl := Option.some.inj H
 have hcz16_0 : wc.cell? ⟨gb281, 0, none⟩ = some (.int .i64 a0_0) := (blk_cell BK281.out 0).trans rfl
 have hcz16_1 : wc.cell? ⟨gb281, 1, none⟩ = some (.int .i64 a0_1) := (blk_cell BK281.out 1).trans rfl
 have hcz16_2 : wc.cell? ⟨gb281, 2, none⟩ = some (.int .i64 a0_2) := (blk_cell BK281.out 2).trans rfl
 have hcz16_3 : wc.cell? ⟨gb281, 3, none⟩ = some (.slice A0_3 l0_3.length c0_3) := (blk_cell BK281.out 3).trans rfl
 have hcz16_4 : wc.cell? ⟨gb281, 4, none⟩ = some (.int .i64 a0_4) := (blk_cell BK281.out 4).trans rfl
 have hcz16_5 : wc.cell? ⟨gb281, 5, none⟩ = some (.int .i64 a0_5) := (blk_cell BK281.out 5).trans rfl
 have hcz16_6 : wc.cell? ⟨gb281, 6, none⟩ = some (.slice A0_6 l0_6.length c0_6) := (blk_cell BK281.out 6).trans rfl
 have hfz16_0 := blk_frozen BK281.out 0
 have hfz16_1 := blk_frozen BK281.out 1
 have hfz16_2 := blk_frozen BK281.out 2
 have hfz16_3 := blk_frozen BK281.out 3
 have hfz16_4 := blk_frozen BK281.out 4
 have hfz16_5 := blk_frozen BK281.out 5
 have hfz16_6 := blk_frozen BK281.out 6
 go_wp2
 go_ret
 exact ⟨by first | rfl | (simp [errW_none, errW_some] <;> rfl) | (simp [*, errW_none, errW_some] <;> rfl), by repeat (first | (with_reducible first | exact HB.out | apply below_alloc | apply pw_below_drewN | apply below_drew1 | refine below_set ?_ GE281.out) | exact HB.out)⟩
 }
 {
 rw [if_neg c15] at H
 have c15b0 : (a1 == 8) = false := beq_eq_false_iff_ne.mpr c15
 have c15b1 : (a1 != 8) = true := bne_iff_ne.mpr c15
 by_cases c17 : a1 = 9
 {
 rw [if_pos c17] at H
 have c17b0 : (a1 == 9) = true := beq_iff_eq.mpr c17
 have c17b1 : (a1 != 9) = false := bne_eq_false_iff_eq.mpr c17
 clear c17
 obtain rfl := Option.some.inj H
 have hcz18_0 : wc.cell? ⟨gb281, 0, none⟩ = some (.int .i64 a0_0) := (blk_cell BK281.out 0).trans rfl
 have hcz18_1 : wc.cell? ⟨gb281, 1, none⟩ = some (.int .i64 a0_1) := (blk_cell BK281.out 1).trans rfl
 have hcz18_2 : wc.cell? ⟨gb281, 2, none⟩ = some (.int .i64 a0_2) := (blk_cell BK281.out 2).trans rfl
 have hcz18_3 : wc.cell? ⟨gb281, 3, none⟩ = some (.slice A0_3 l0_3.length c0_3) := (blk_cell BK281.out 3).trans rfl
 have hcz18_4 : wc.cell? ⟨gb281, 4, none⟩ = some (.int .i64 a0_4) := (blk_cell BK281.out 4).trans rfl
 have hcz18_5 : wc.cell? ⟨gb281, 5, none⟩ = some (.int .i64 a0_5) := (blk_cell BK281.out 5).trans rfl
 have hcz18_6 : wc.cell? ⟨gb281, 6, none⟩ = some (.slice A0_6 l0_6.length c0_6) := (blk_cell BK281.out 6).trans rfl
 have hfz18_0 := blk_frozen BK281.out 0
 have hfz18_1 := blk_frozen BK281.out 1
 have hfz18_2 := blk_frozen BK281.out 2
 have hfz18_3 := blk_frozen BK281.out 3
 have hfz18_4 := blk_frozen BK281.out 4
 have hfz18_5 := blk_frozen BK281.out 5
 have hfz18_6 := blk_frozen BK281.out 6
 go_wp2
 go_ret
 exact ⟨by first | rfl | (simp [errW_none, errW_some] <;> rfl) | (simp [*, errW_none, errW_some] <;> rfl), by repeat (first | (with_reducible first | exact HB.out | apply below_alloc | apply pw_below_drewN | apply below_drew1 | refine below_set ?_ GE281.out) | exact HB.out)⟩
 }
 {
 rw [if_neg c17] at H
 have c17b0 : (a1 == 9) = false := beq_eq_false_iff_ne.mpr c17
 have c17b1 : (a1 != 9) = true := bne_iff_ne.mpr c17
 by_cases c19 : a1 = 10
 {
 rw [if_pos c19] at H
 have c19b0 : (a1 == 10) = true := beq_iff_eq.mpr c19
 have c19b1 : (a1 != 10) = false := bne_eq_false_iff_eq.mpr c19
 clear c19
 obtain rfl := Option.some.inj H
 have hcz20_0 : wc.cell? ⟨gb281, 0, none⟩ = some (.int .i64 a0_0) := (blk_cell BK281.out 0).trans rfl
 have hcz20_1 : wc.cell? ⟨gb281, 1, none⟩ = some (.int .i64 a0_1) := (blk_cell BK281.out 1).trans rfl
 have hcz20_2 : wc.cell? ⟨gb281, 2, none⟩ = some (.int .i64 a0_2) := (blk_cell BK281.out 2).trans rfl
 have hcz20_3 : wc.cell? ⟨gb281, 3, none⟩ = some (.slice A0_3 l0_3.length c0_3) := (blk_cell BK281.out 3).trans rfl
 have hcz20_4 : wc.cell? ⟨gb281, 4, none⟩ = some (.int .i64 a0_4) := (blk_cell BK281.out 4).trans rfl
 have hcz20_5 : wc.cell? ⟨gb281, 5, none⟩ = some (.int .i64 a0_5) := (blk_cell BK281.out 5).trans rfl
 have hcz20_6 : wc.cell? ⟨gb281, 6, none⟩ = some (.slice A0_6 l0_6.length c0_6) := (blk_cell BK281.out 6).trans rfl
 have hfz20_0 := blk_frozen BK281.out 0
 have hfz20_1 := blk_frozen BK281.out 1
 have hfz20_2 := blk_frozen BK281.out 2
 have hfz20_3 := blk_frozen BK281.out 3
 have hfz20_4 := blk_frozen BK281.out 4
 have hfz20_5 := blk_frozen BK281.out 5
 have hfz20_6 := blk_frozen BK281.out 6
 go_wp2
 go_ret
 exact ⟨by first | rfl | (simp [errW_none, errW_some] <;> rfl) | (simp [*, errW_none, errW_some] <;> rfl), by repeat (first | (with_reducible first | exact HB.out | apply below_alloc | apply pw_below_drewN | apply below_drew1 | refine below_set ?_ GE281.out) | exact HB.out)⟩
 }
 {
 rw [if_neg c19] at H
 have c19b0 : (a1 == 10) = false := beq_eq_false_iff_ne.mpr c19
 have c19b1 : (a1 != 10) = true := bne_iff_ne.mpr c19
 obtain rfl := Option.some.inj H
 have hcz21_0 : wc.cell? ⟨gb281, 0, none⟩ = some (.int .i64 a0_0) := (blk_cell BK281.out 0).trans rfl
 have hcz21_1 : wc.cell? ⟨gb281, 1, none⟩ = some (.int .i64 a0_1) := (blk_cell BK281.out 1).trans rfl
 have hcz21_2 : wc.cell? ⟨gb281, 2, none⟩ = some (.int .i64 a0_2) := (blk_cell BK281.out 2).trans rfl
 have hcz21_3 : wc.cell? ⟨gb281, 3, none⟩ = some (.slice A0_3 l0_3.length c0_3) := (blk_cell BK281.out 3).trans rfl
 have hcz21_4 : wc.cell? ⟨gb281, 4, none⟩ = some (.int .i64 a0_4) := (blk_cell BK281.out 4).trans rfl
 have hcz21_5 : wc.cell? ⟨gb281, 5, none⟩ = some (.int .i64 a0_5) := (blk_cell BK281.out 5).trans rfl
 have hcz21_6 : wc.cell? ⟨gb281, 6, none⟩ = some (.slice A0_6 l0_6.length c0_6) := (blk_cell BK281.out 6).trans rfl
 have hfz21_0 := blk_frozen BK281.out 0
 have hfz21_1 := blk_frozen BK281.out 1
 have hfz21_2 := blk_frozen BK281.out 2
 have hfz21_3 := blk_frozen BK281.out 3
 have hfz21_4 := blk_frozen BK281.out 4
 have hfz21_5 := blk_frozen BK281.out 5
 have hfz21_6 := blk_frozen BK281.out 6
 go_wp2
 go_ret
 exact ⟨by first | rfl | (simp [errW_none, errW_some] <;> rfl) | (simp [*, errW_none, errW_some] <;> rfl), by repeat (first | (with_reducible first | exact HB.out | apply below_alloc | apply pw_below_drewN | apply below_drew1 | refine below_set ?_ GE281.out) | exact HB.out)⟩
 }
 }
 }
 }
 }
 }
 }
 }
 )
 )
end Go.Proofs.Ytkkhjfkgfmodnaa.P
