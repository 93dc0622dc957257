-- written by this project's xprint.py (a turn of the kit's printer; its own texts among them)
import Derived.Test.YticdodbnjlnjlaaPx0
import Derived.Test.YticdodbnjlnjlaaPx1
import Derived.Test.YticdodbnjlnjlaaPx3
import Derived.Test.YticdodbnjlnjlaaPx7
import Derived.Test.YticdodbnjlnjlaaPx8
import Derived.Test.YticdodbnjlnjlaaPx11
import Derived.Test.YticdodbnjlnjlaaPx12
namespace Go.Proofs.Yticdodbnjlnjlaa.P
open Go.RowKit Go.Proofs.YticdodbnjlnjlaaW.PrintWords Go.Proofs.YticdodbnjlnjlaaW.PrintLast Go.Proofs.YticdodbnjlnjlaaW.PrintMore
attribute [local go_sem] max2_int min2_int max_two min_two max_three min_three max_four min_four   -- for this text's walks alone
attribute [local irreducible] Calls
set_option linter.unusedVariables false
set_option linter.unusedSimpArgs false

/-! ### interlocklaw19_SwapMoves: function 6 -/
theorem S33_ext {x y : S33} (h : x.f0 = y.f0 ∧ x.f1 = y.f1 ∧ x.f2 = y.f2 ∧ x.f3 = y.f3) : x = y := by
  cases x; cases y; obtain ⟨h0, h1, h2, h3⟩ := h; simp only at h0 h1 h2 h3; subst h0; subst h1; subst h2; subst h3; rfl
mutual
def interlocklaw19_SwapMoves.l0 : Nat → List S33 → List S33 → List Int → List Int → Nat → Option Bool
  | 0, _, _, _, _, _ => none
  | k + 1, c, ec, ef, sn, i => if i < c.length then
      (if 0 ≤ ef.getD i 0 then (if ef.getD i 0 < (c.length : Int) then (if sn.getD (ef.getD i 0).toNat 0 = 1 then none
        else (if (ec.getD i z33).f0 = (c.getD (ef.getD i 0).toNat z33).f0 ∧ (ec.getD i z33).f1 = (c.getD (ef.getD i 0).toNat z33).f1 ∧ (ec.getD i z33).f2 = (c.getD (ef.getD i 0).toNat z33).f2 ∧ (ec.getD i z33).f3 = (c.getD (ef.getD i 0).toNat z33).f3 then
          (interlockref11_Head.f k c (i : Int)).bind fun t1 => (interlockref11_Head.f k c (ef.getD i 0)).bind fun t2 =>
            if t1 = t2 then interlocklaw19_SwapMoves.l1 k c ec ef (sn.set (ef.getD i 0).toNat 1) i 0 else none
         else none)) else none) else none)
    else (interlocklaw19_known.f k).bind fun t => some t
def interlocklaw19_SwapMoves.l1 : Nat → List S33 → List S33 → List Int → List Int → Nat → Nat → Option Bool
  | 0, _, _, _, _, _, _ => none
  | k + 1, c, ec, ef, sn, i, j => if j < i then
      (if ef.getD i 0 < ef.getD j 0 then (if ef.getD j 0 < (c.length : Int) then
        (interlockref19_Apart.f k (c.getD (ef.getD i 0).toNat z33).f0 (c.getD (ef.getD i 0).toNat z33).f1 (c.getD (ef.getD i 0).toNat z33).f2 (c.getD (ef.getD i 0).toNat z33).f3 (c.getD (ef.getD j 0).toNat z33).f0 (c.getD (ef.getD j 0).toNat z33).f1 (c.getD (ef.getD j 0).toNat z33).f2 (c.getD (ef.getD j 0).toNat z33).f3).bind fun t => if t = true then interlocklaw19_SwapMoves.l1 k c ec ef sn i (j + 1) else none
        else none)
       else interlocklaw19_SwapMoves.l1 k c ec ef sn i (j + 1))
    else interlocklaw19_SwapMoves.l0 k c ec ef sn (i + 1)
end
def interlocklaw19_SwapMoves.g (k : Nat) (c b1 : List S33) (b2 : List Int) : Option Bool := if b1.length = c.length then (if b2.length = c.length then (if c.length ≤ 1000000 then interlocklaw19_SwapMoves.l0 k c b1 b2 (List.replicate c.length 0) 0 else none) else none) else none
def interlocklaw19_SwapMoves.f (k : Nat) (l0 : List (List Int)) (a1 : Int) : Option (Bool) := (interlocklaw02_Make.f k l0).bind fun bt303 => (if (bt303.2.2.2.2.2.2.length : Int) = 0 then (none) else (if 0 ≤ (Int.tmod (wrap64 (a1)) (bt303.2.2.2.2.2.2.length : Int)) then (if (Int.tmod (wrap64 (a1)) (bt303.2.2.2.2.2.2.length : Int)) < (bt303.2.2.2.2.2.2.length : Int) then ((swap_Code.f k (rd_L4 bt303.2.2.2.2.2.2 (Int.tmod (wrap64 (a1)) (bt303.2.2.2.2.2.2.length : Int)))).bind fun bt316 => (interlocklaw19_SwapMoves.g k (rd_L4 bt303.2.2.2.2.2.2 (Int.tmod (wrap64 (a1)) (bt303.2.2.2.2.2.2.length : Int))) bt316.1 bt316.2)) else (none)) else (none)))
theorem interlocklaw19_SwapMoves.mono_l : ∀ k, (∀ c ec ef sn i, LeO (interlocklaw19_SwapMoves.l0 k c ec ef sn i) (interlocklaw19_SwapMoves.l0 (k + 1) c ec ef sn i)) ∧ (∀ c ec ef sn i j, LeO (interlocklaw19_SwapMoves.l1 k c ec ef sn i j) (interlocklaw19_SwapMoves.l1 (k + 1) c ec ef sn i j))
  | 0 => ⟨fun _ _ _ _ _ r h => by simp [interlocklaw19_SwapMoves.l0] at h, fun _ _ _ _ _ _ r h => by simp [interlocklaw19_SwapMoves.l1] at h⟩
  | k + 1 => by
    obtain ⟨ih0, ih1⟩ := interlocklaw19_SwapMoves.mono_l k
    refine ⟨?_, ?_⟩
    · intro c ec ef sn i
      unfold interlocklaw19_SwapMoves.l0
      repeat' first
        | exact ih1 _ _ _ _ _ _
        | exact interlocklaw19_known.mono _
        | exact interlockref11_Head.mono _ _ _
        | exact LeO.refl _
        | exact LeO.none _
        | refine LeO.ite ?_ ?_
        | refine LeO.bind ?_ (fun _ => ?_)
    · intro c ec ef sn i j
      unfold interlocklaw19_SwapMoves.l1
      repeat' first
        | exact ih0 _ _ _ _ _
        | exact ih1 _ _ _ _ _ _
        | exact interlockref19_Apart.mono _ _ _ _ _ _ _ _ _
        | exact LeO.refl _
        | exact LeO.none _
        | refine LeO.ite ?_ ?_
        | refine LeO.bind ?_ (fun _ => ?_)
theorem interlocklaw19_SwapMoves.mono : ∀ a0 a1 k, LeO (interlocklaw19_SwapMoves.f k a0 a1) (interlocklaw19_SwapMoves.f (k + 1) a0 a1) := by
  intro a0 a1 k
  unfold interlocklaw19_SwapMoves.f interlocklaw19_SwapMoves.g
  repeat' first
      | exact (interlocklaw19_SwapMoves.mono_l k).1 _ _ _ _ _
      | exact interlocklaw02_Make.mono _ _
      | exact swap_Code.mono _ _
      | exact LeO.refl _
      | exact LeO.none _
      | refine LeO.ite ?_ ?_
      | refine LeO.bind ?_ (fun _ => ?_)
attribute [local go_sem high] eqA33
def interlocklaw19_SwapMoves.T2 : Bool × List (List Nat × List Nat) := (true, [([], []), ([0], [0]), ([], []), ([2], [2]), ([], []), ([4], [4]), ([5], [5]), ([3, 6], [3, 6]), ([1, 7], [1, 7]), ([8], [8]), ([9, 0, 1, 2, 3, 4, 5, 6, 7, 8, 9], [9])])
def interlocklaw19_SwapMoves.B2 : List Nat := [0, 1, 0, 4, 0, 16, 48, 124, 255, 511, 1023]
theorem interlocklaw19_SwapMoves.tab2 : rtab .any (opsOf Try.f6 2) = interlocklaw19_SwapMoves.T2 := by kernel_rfl
theorem interlocklaw19_SwapMoves.bits2 : waitsOk interlocklaw19_SwapMoves.T2.2 interlocklaw19_SwapMoves.B2 = true := by kernel_rfl
def interlocklaw19_SwapMoves.T11 : Bool × List (List Nat × List Nat) := (true, [([], []), ([0], [0]), ([1], [1]), ([2], [2]), ([2], [2]), ([4, 2], [2, 4]), ([3, 5, 2], [2, 3, 5]), ([2, 6], [2, 6]), ([7, 2], [7]), ([8], [8]), ([8], [8]), ([9, 10, 8], [8, 9, 10]), ([11, 8], [8, 11]), ([12, 8], [8, 12]), ([8, 13], [8, 13]), ([14, 8], [14]), ([15], [15]), ([16, 15], [15, 16]), ([15], [15]), ([17, 18, 15], [15, 17, 18]), ([19, 15], [15, 19]), ([15], [15]), ([15], [15]), ([21, 22, 15], [15, 21, 22]), ([23, 15], [15, 23]), ([20, 24, 15], [15, 20, 24]), ([15, 25], [15, 25]), ([26, 15], [26]), ([27], [27]), ([27], [27]), ([28, 29, 27, 27], [27, 28, 29]), ([27], [27]), ([27], [27]), ([31, 32, 30, 27], [27, 31, 32]), ([30, 33, 27], [27, 30, 33]), ([27, 34], [27, 34])])
def interlocklaw19_SwapMoves.B11 : List Nat := [0, 1, 3, 7, 7, 23, 63, 127, 255, 511, 511, 2047, 4095, 8191, 16383, 32767, 65535, 131071, 65535, 524287, 1048575, 65535, 65535, 6356991, 14745599, 33554431, 67108863, 134217727, 268435455, 268435455, 1073741823, 268435455, 268435455, 8589934591, 17179869183, 34359738367]
theorem interlocklaw19_SwapMoves.tab11 : rtab .any (opsOf Try.f6 11) = interlocklaw19_SwapMoves.T11 := by kernel_rfl
theorem interlocklaw19_SwapMoves.bits11 : waitsOk interlocklaw19_SwapMoves.T11.2 interlocklaw19_SwapMoves.B11 = true := by kernel_rfl
def interlocklaw19_SwapMoves.T17 : Bool × List (List Nat × List Nat) := (true, [([], []), ([0], [0]), ([], []), ([1, 2], [1, 2]), ([3], [3]), ([], []), ([4, 5], [4, 5]), ([6], [6]), ([7], [7]), ([7], [7]), ([8, 9, 7], [7, 8, 9]), ([10, 7], [7, 10]), ([7], [7]), ([7], [7]), ([13, 7], [7, 13]), ([7], [7]), ([14, 15, 7], [7, 14, 15]), ([16, 7], [7, 16]), ([12, 17, 7], [7, 12, 17]), ([18, 7], [7, 18]), ([11, 19, 7, 7], [7, 11, 19]), ([20, 7], [7, 20]), ([7, 21], [7, 21])])
def interlocklaw19_SwapMoves.B17 : List Nat := [0, 1, 0, 7, 15, 0, 63, 127, 255, 255, 1023, 2047, 255, 255, 8447, 255, 57599, 123135, 258303, 520447, 1048575, 2097151, 4194303]
theorem interlocklaw19_SwapMoves.tab17 : rtab .any (opsOf Try.f6 17) = interlocklaw19_SwapMoves.T17 := by kernel_rfl
theorem interlocklaw19_SwapMoves.bits17 : waitsOk interlocklaw19_SwapMoves.T17.2 interlocklaw19_SwapMoves.B17 = true := by kernel_rfl
set_option maxHeartbeats 8000000 in
set_option maxRecDepth 100000 in
theorem interlocklaw19_SwapMoves.calls (k : Nat) (A0 : Option Addr) (c0 : Nat) (l0 : List (List Int)) (a1 : Int) (r : Bool) (w : World) (hr0 : Kd.C (Kd.slice 5 (Kd.int .u8)) w A0 l0.length l0) (hc0 : l0.length ≤ c0) (h : interlocklaw19_SwapMoves.f k l0 a1 = some r) :
    Calls Try.prog 6 #[.slice A0 l0.length c0, .int .u8 a1] w fun e w' => e = .returned (.bool r) ∧ Below w.heap.size w w' := by
 have hu26 := Try.underlying26
 have hu30 := Try.underlying30
 have hu33 := Try.underlying33
 have HR0 := Aside0.mk hr0
 have HC0 := Aside0.mk hc0
 clear hr0 hc0
 have HB := Aside0.mk (Below.refl w.heap.size w)
 have H : ((interlocklaw02_Make.f k l0).bind fun bt303 => (if (bt303.2.2.2.2.2.2.length : Int) = 0 then (none) else (if 0 ≤ (Int.tmod (wrap64 (a1)) (bt303.2.2.2.2.2.2.length : Int)) then (if (Int.tmod (wrap64 (a1)) (bt303.2.2.2.2.2.2.length : Int)) < (bt303.2.2.2.2.2.2.length : Int) then ((swap_Code.f k (rd_L4 bt303.2.2.2.2.2.2 (Int.tmod (wrap64 (a1)) (bt303.2.2.2.2.2.2.length : Int)))).bind fun bt316 => (interlocklaw19_SwapMoves.g k (rd_L4 bt303.2.2.2.2.2.2 (Int.tmod (wrap64 (a1)) (bt303.2.2.2.2.2.2.length : Int))) bt316.1 bt316.2)) else (none)) else (none)))) = some r := h
 clear h
 replace H := Option.bind_eq_some_iff.mp H
 obtain ⟨⟨t303, t304, t305, t306, t309, t310, t311⟩, A30, H⟩ := H
 replace H : (if (t311.length : Int) = 0 then (none) else (if 0 ≤ (Int.tmod (wrap64 (a1)) (t311.length : Int)) then (if (Int.tmod (wrap64 (a1)) (t311.length : Int)) < (t311.length : Int) then ((swap_Code.f k (rd_L4 t311 (Int.tmod (wrap64 (a1)) (t311.length : Int)))).bind fun bt316 => (interlocklaw19_SwapMoves.g k (rd_L4 t311 (Int.tmod (wrap64 (a1)) (t311.length : Int))) bt316.1 bt316.2)) else (none)) else (none))) = some r := H
 have A3 := Aside0.mk A30
 clear A30
 by_cases c4 : (t311.length : Int) = 0
 {
 rw [if_pos c4] at H
 exact absurd H (by simp)
 }
 {
 rw [if_neg c4] at H
 have c4b0 : ((t311.length : Int) == 0) = false := beq_eq_false_iff_ne.mpr c4
 have c4b1 : ((t311.length : Int) != 0) = true := bne_iff_ne.mpr c4
 have c4b2 : ¬ (t311 = []) := fun h_ => c4 (by rw [h_]; rfl)
 obtain ⟨ji5, hji5⟩ : ∃ j_ : Int, (Int.tmod (wrap64 (a1)) (t311.length : Int)) = j_ := ⟨_, rfl⟩
 replace H : (if 0 ≤ (ji5) then (if (ji5) < (t311.length : Int) then ((swap_Code.f k (rd_L4 t311 (ji5))).bind fun bt316 => (interlocklaw19_SwapMoves.g k (rd_L4 t311 (ji5)) bt316.1 bt316.2)) else (none)) else (none)) = some r := by first | (rw [hji5] at H; exact H) | (simp only [hji5] at H ⊢; exact H)
 (try rw [hji5] at A3)
 have hji5q : Int.tmod (IntKind.i64.wrap (a1)) (t311.length : Int) = ji5 := by first | (rw [i64_w]; exact hji5) | (simp only [i64_w]; exact hji5)
 by_cases c6 : 0 ≤ (ji5)
 {
 rw [if_pos c6] at H
 have c6b0 : decide (0 ≤ (ji5)) = true := decide_eq_true c6
 clear c6
 by_cases c7 : (ji5) < (t311.length : Int)
 {
 rw [if_pos c7] at H
 have c7b0 : decide ((ji5) < (t311.length : Int)) = true := decide_eq_true c7
 clear c7
 replace H := Option.bind_eq_some_iff.mp H
 obtain ⟨⟨t316, t319⟩, A80, H⟩ := H
 replace H : (interlocklaw19_SwapMoves.g k (rd_L4 t311 (ji5)) t316 t319) = some r := H
 have A8 := Aside0.mk A80
 clear A80
 have HC9 := Aside0.mk H
 clear H
 go_enter Try.func6, Try.ntmps6
 try go_wp2_with (first | ((with_reducible refine gate_callee (f := 8) rfl ?_); refine goesL_ (some 13) rfl rfl Try.func8 (by kernel_rfl) rfl #[.slice A0 l0.length c0] rfl (by (try simp only [List.map_toArray, List.map_cons, List.map_nil]); first | done | rfl | (simp only [List.length_drop, List.length_take]; rfl)) ?_; (with_reducible refine (interlocklaw02_Make.calls k _ _ l0 t303 t304 t305 t306 t309 t310 t311 _ ?side1 ?side2 A3.out).mono ?_); (case side1 => repeat (first | exact HR0.out | (with_reducible refine Kd.C_alloc ?_ _) | (with_reducible refine Kd.C_drewN ?_ _) | (with_reducible refine Kd.C_drew ?_))); (case side2 => exact HC0.out); rintro e w10 ⟨v307, v312, rfl, ho0, ho1, hb⟩; refine ⟨_, rfl, ?_⟩; have n0_ := Aside0.mk (Kd.R_lower ho0 (below_size (by repeat (first | (with_reducible first | exact HB.out | apply below_alloc | apply pw_below_drewN | apply below_drew1) | exact HB.out)))); have n1_ := Aside0.mk (Kd.S_lower ho1 (below_size (by repeat (first | (with_reducible first | exact HB.out | apply below_alloc | apply pw_below_drewN | apply below_drew1) | exact HB.out)))); have n2_ := Aside0.mk (below_step (by repeat (first | (with_reducible first | exact HB.out | apply below_alloc | apply pw_below_drewN | apply below_drew1) | exact HB.out)) hb); clear HB; have HO308 := n0_; have HO313 := n1_; have HB := n2_; clear n0_ n1_ n2_; (try clear hb); (try clear hb2); (try clear hk); (try clear hi); (try clear ho0); (try clear ho1)) | ((with_reducible refine gate_dst (N := 5) rfl ?_); (try (refine gate_guard (by rfl) ?_; dsimp only)); refine box_event ?hg (N := 5) ?hd (cs := #[.int .i64 0, .int .i64 0, .int .i64 0, .slice none 0 0, .int .i64 0, .int .i64 0, .slice none 0 0]) (t := 26) ?hr ?_; (case hd => rfl); (case hg => rfl); (case hr => first | (go_simp; done) | (go_simp; rfl)); intro gb314 hg w11 hbox hb; have n0_ := Aside0.mk (Kd.R_below (by (with_reducible repeat (first | apply Kd.R_alloc | apply Kd.R_drewN | apply Kd.R_drew)); exact HO308.out) hb); have n1_ := Aside0.mk (Kd.S_below (by (with_reducible repeat (first | apply Kd.S_alloc | apply Kd.S_drewN | apply Kd.S_drew)); exact HO313.out) hb); have n2_ := Aside0.mk (below_step (by repeat (first | (with_reducible first | exact HB.out | apply below_alloc | apply pw_below_drewN | apply below_drew1) | exact HB.out)) hb); have n3_ := Aside0.mk (hbox); have n4_ := Aside0.mk ((by rw [hg]; exact (below_size (by repeat (first | (with_reducible first | exact HB.out | apply below_alloc | apply pw_below_drewN | apply below_drew1) | exact HB.out))) : w.heap.size ≤ gb314)); have n5_ := Aside0.mk ((by rw [hg]; exact (below_size (by repeat (first | (with_reducible first | exact HB.out | apply below_alloc | apply pw_below_drewN | apply below_drew1) | exact HB.out))) : w.heap.size ≤ gb314)); clear HO308; clear HO313; clear HB; have HO308 := n0_; have HO313 := n1_; have HB := n2_; have BK314 := n3_; have GW314 := n4_; have GE314 := n5_; clear n0_ n1_ n2_ n3_ n4_ n5_; clear hb hbox hg; have hcz12_0 : w11.cell? ⟨gb314, 0, none⟩ = some (.int .i64 0) := (blk_cell BK314.out 0).trans rfl; have hcz12_1 : w11.cell? ⟨gb314, 1, none⟩ = some (.int .i64 0) := (blk_cell BK314.out 1).trans rfl; have hcz12_2 : w11.cell? ⟨gb314, 2, none⟩ = some (.int .i64 0) := (blk_cell BK314.out 2).trans rfl; have hcz12_3 : w11.cell? ⟨gb314, 3, none⟩ = some (.slice none 0 0) := (blk_cell BK314.out 3).trans rfl; have hcz12_4 : w11.cell? ⟨gb314, 4, none⟩ = some (.int .i64 0) := (blk_cell BK314.out 4).trans rfl; have hcz12_5 : w11.cell? ⟨gb314, 5, none⟩ = some (.int .i64 0) := (blk_cell BK314.out 5).trans rfl; have hcz12_6 : w11.cell? ⟨gb314, 6, none⟩ = some (.slice none 0 0) := (blk_cell BK314.out 6).trans rfl; have hfz12_0 := blk_frozen BK314.out 0; have hfz12_1 := blk_frozen BK314.out 1; have hfz12_2 := blk_frozen BK314.out 2; have hfz12_3 := blk_frozen BK314.out 3; have hfz12_4 := blk_frozen BK314.out 4; have hfz12_5 := blk_frozen BK314.out 5; have hfz12_6 := blk_frozen BK314.out 6; obtain ⟨Ao13, co13, eo13⟩ := Kd.R_slice HO308.out; subst eo13; obtain ⟨Ao14, co14, eo14⟩ := Kd.S_slice HO313.out; subst eo14))
 have n0_ : Aside0 (Kd.R (Kd.int .i64) 3 (((((((w11.setCell ⟨gb314, 0, none⟩ (.int .i64 t303)).setCell ⟨gb314, 1, none⟩ (.int .i64 t304)).setCell ⟨gb314, 2, none⟩ (.int .i64 t305)).setCell ⟨gb314, 3, none⟩ (.slice Ao13 t306.length co13)).setCell ⟨gb314, 4, none⟩ (.int .i64 t309)).setCell ⟨gb314, 5, none⟩ (.int .i64 t310)).setCell ⟨gb314, 6, none⟩ (.slice Ao14 t311.length co14)) w.heap.size (fun _ => True) (.slice Ao13 t306.length co13) t306) := ⟨by (with_reducible repeat (first | apply Kd.R_alloc | apply Kd.R_drewN | apply Kd.R_drew)); exact Kd.R_mono (Kd.R_far (p := ⟨gb314, 6, none⟩) (Kd.R_far (p := ⟨gb314, 5, none⟩) (Kd.R_far (p := ⟨gb314, 4, none⟩) (Kd.R_far (p := ⟨gb314, 3, none⟩) (Kd.R_far (p := ⟨gb314, 2, none⟩) (Kd.R_far (p := ⟨gb314, 1, none⟩) (Kd.R_far (p := ⟨gb314, 0, none⟩) (Kd.R_types HO308.out BK314.out (by decide)) (fun _ hk => hk.2) (.int .i64 t303)) (fun _ hk => hk.2) (.int .i64 t304)) (fun _ hk => hk.2) (.int .i64 t305)) (fun _ hk => hk.2) (.slice Ao13 t306.length co13)) (fun _ hk => hk.2) (.int .i64 t309)) (fun _ hk => hk.2) (.int .i64 t310)) (fun _ hk => hk.2) (.slice Ao14 t311.length co14)) (fun _ hk => trivial)⟩
 have n1_ : Aside0 (Kd.S (Kd.slice 33 k33) 28 (((((((w11.setCell ⟨gb314, 0, none⟩ (.int .i64 t303)).setCell ⟨gb314, 1, none⟩ (.int .i64 t304)).setCell ⟨gb314, 2, none⟩ (.int .i64 t305)).setCell ⟨gb314, 3, none⟩ (.slice Ao13 t306.length co13)).setCell ⟨gb314, 4, none⟩ (.int .i64 t309)).setCell ⟨gb314, 5, none⟩ (.int .i64 t310)).setCell ⟨gb314, 6, none⟩ (.slice Ao14 t311.length co14)) w.heap.size (fun _ => True) (.slice Ao14 t311.length co14) t311) := ⟨by (with_reducible repeat (first | apply Kd.S_alloc | apply Kd.S_drewN | apply Kd.S_drew)); exact Kd.S_mono (Kd.S_far (p := ⟨gb314, 6, none⟩) (Kd.S_far (p := ⟨gb314, 5, none⟩) (Kd.S_far (p := ⟨gb314, 4, none⟩) (Kd.S_far (p := ⟨gb314, 3, none⟩) (Kd.S_far (p := ⟨gb314, 2, none⟩) (Kd.S_far (p := ⟨gb314, 1, none⟩) (Kd.S_far (p := ⟨gb314, 0, none⟩) (Kd.S_types HO313.out BK314.out (by decide)) (fun _ hk => hk.2) (.int .i64 t303)) (fun _ hk => hk.2) (.int .i64 t304)) (fun _ hk => hk.2) (.int .i64 t305)) (fun _ hk => hk.2) (.slice Ao13 t306.length co13)) (fun _ hk => hk.2) (.int .i64 t309)) (fun _ hk => hk.2) (.int .i64 t310)) (fun _ hk => hk.2) (.slice Ao14 t311.length co14)) (fun _ hk => trivial)⟩
 have n2_ : Aside0 ((((((((w11.setCell ⟨gb314, 0, none⟩ (.int .i64 t303)).setCell ⟨gb314, 1, none⟩ (.int .i64 t304)).setCell ⟨gb314, 2, none⟩ (.int .i64 t305)).setCell ⟨gb314, 3, none⟩ (.slice Ao13 t306.length co13)).setCell ⟨gb314, 4, none⟩ (.int .i64 t309)).setCell ⟨gb314, 5, none⟩ (.int .i64 t310)).setCell ⟨gb314, 6, none⟩ (.slice Ao14 t311.length co14)).heap[gb314]? = some (.cells #[.int .i64 t303, .int .i64 t304, .int .i64 t305, .slice Ao13 t306.length co13, .int .i64 t309, .int .i64 t310, .slice Ao14 t311.length co14] 26 (0, 0))) := ⟨by (with_reducible repeat (first | refine blk_drewN ?_ _ | refine blk_drew ?_ | refine blk_alloc ?_ _)); refine blk_put (cs := #[.int .i64 t303, .int .i64 t304, .int .i64 t305, .slice Ao13 t306.length co13, .int .i64 t309, .int .i64 t310, .slice none 0 0]) ?_ 6 _ rfl; (with_reducible repeat (first | refine blk_drewN ?_ _ | refine blk_drew ?_ | refine blk_alloc ?_ _)); refine blk_put (cs := #[.int .i64 t303, .int .i64 t304, .int .i64 t305, .slice Ao13 t306.length co13, .int .i64 t309, .int .i64 0, .slice none 0 0]) ?_ 5 _ rfl; (with_reducible repeat (first | refine blk_drewN ?_ _ | refine blk_drew ?_ | refine blk_alloc ?_ _)); refine blk_put (cs := #[.int .i64 t303, .int .i64 t304, .int .i64 t305, .slice Ao13 t306.length co13, .int .i64 0, .int .i64 0, .slice none 0 0]) ?_ 4 _ rfl; (with_reducible repeat (first | refine blk_drewN ?_ _ | refine blk_drew ?_ | refine blk_alloc ?_ _)); refine blk_put (cs := #[.int .i64 t303, .int .i64 t304, .int .i64 t305, .slice none 0 0, .int .i64 0, .int .i64 0, .slice none 0 0]) ?_ 3 _ rfl; (with_reducible repeat (first | refine blk_drewN ?_ _ | refine blk_drew ?_ | refine blk_alloc ?_ _)); refine blk_put (cs := #[.int .i64 t303, .int .i64 t304, .int .i64 0, .slice none 0 0, .int .i64 0, .int .i64 0, .slice none 0 0]) ?_ 2 _ rfl; (with_reducible repeat (first | refine blk_drewN ?_ _ | refine blk_drew ?_ | refine blk_alloc ?_ _)); refine blk_put (cs := #[.int .i64 t303, .int .i64 0, .int .i64 0, .slice none 0 0, .int .i64 0, .int .i64 0, .slice none 0 0]) ?_ 1 _ rfl; (with_reducible repeat (first | refine blk_drewN ?_ _ | refine blk_drew ?_ | refine blk_alloc ?_ _)); refine blk_put (cs := #[.int .i64 0, .int .i64 0, .int .i64 0, .slice none 0 0, .int .i64 0, .int .i64 0, .slice none 0 0]) ?_ 0 _ rfl; (with_reducible repeat (first | refine blk_drewN ?_ _ | refine blk_drew ?_ | refine blk_alloc ?_ _)); exact BK314.out⟩
 have n3_ : Aside0 (Below w.heap.size w (((((((w11.setCell ⟨gb314, 0, none⟩ (.int .i64 t303)).setCell ⟨gb314, 1, none⟩ (.int .i64 t304)).setCell ⟨gb314, 2, none⟩ (.int .i64 t305)).setCell ⟨gb314, 3, none⟩ (.slice Ao13 t306.length co13)).setCell ⟨gb314, 4, none⟩ (.int .i64 t309)).setCell ⟨gb314, 5, none⟩ (.int .i64 t310)).setCell ⟨gb314, 6, none⟩ (.slice Ao14 t311.length co14))) := ⟨by repeat (first | (with_reducible first | exact HB.out | apply below_alloc | apply pw_below_drewN | apply below_drew1 | refine below_set ?_ GE314.out) | exact HB.out)⟩
 (try clear HO308)
 (try clear HO313)
 (try clear BK314)
 (try clear HB)
 generalize (((((((w11.setCell ⟨gb314, 0, none⟩ (.int .i64 t303)).setCell ⟨gb314, 1, none⟩ (.int .i64 t304)).setCell ⟨gb314, 2, none⟩ (.int .i64 t305)).setCell ⟨gb314, 3, none⟩ (.slice Ao13 t306.length co13)).setCell ⟨gb314, 4, none⟩ (.int .i64 t309)).setCell ⟨gb314, 5, none⟩ (.int .i64 t310)).setCell ⟨gb314, 6, none⟩ (.slice Ao14 t311.length co14)) = w15 at n0_ n1_ n2_ n3_ ⊢
 have HO308 := n0_
 have HO313 := n1_
 have BK314 := n2_
 have HB := n3_
 clear n0_ n1_ n2_ n3_
 have n0_ := Aside0.mk (Kd.R_drew HO308.out)
 have n1_ := Aside0.mk (Kd.S_drew HO313.out)
 have n2_ := Aside0.mk (blk_drew BK314.out)
 have n3_ := Aside0.mk (below_drew1 HB.out)
 clear HO308
 clear HO313
 clear BK314
 clear HB
 have HO308 := n0_
 have HO313 := n1_
 have BK314 := n2_
 have HB := n3_
 clear n0_ n1_ n2_ n3_
 have p315 : 0 ≤ ((ji5) : Int) := of_decide_eq_true (by first | (with_reducible assumption) | assumption)
 have q315 : (ji5) < (t311.length : Int) := of_decide_eq_true (by first | (with_reducible assumption) | assumption)
 obtain ⟨ad315, A315_0, c315_0, e315, hx315_0, hl315_0, hi315_0⟩ := at_L4 (Kd.S_reads' HO313.out).2.2 (ji5) p315 q315
 cases e315
 obtain ⟨ce315, hce315, hMe315, hcc315⟩ := Kd.S_get HO313.out [] (ji5) p315 (by first | exact q315 | exact of_decide_eq_true (by first | (with_reducible assumption) | assumption) | (have e_ := (Kd.S_reads' HO313.out).1; omega))
 obtain ⟨ve315_0, rfl, ge315_0⟩ := hMe315
 have hv315_0 := hcc315 0 _ rfl
 rw [Nat.add_zero, show ((Kd.slice 33 k33)).sz = 1 from rfl, Nat.mul_one] at hv315_0
 replace hv315_0 := Option.some.inj (hv315_0.symm.trans hx315_0)
 rw [hv315_0] at ge315_0
 have HL315_0 := Aside0.mk (show Kd.R k33 33 _ _ _ _ (rd_L4 t311 (ji5)) from ge315_0)
 clear hv315_0 ge315_0
 clear hcc315 hce315
 have HR315_0 := Aside0.mk hi315_0
 have HC315_0 := Aside0.mk hl315_0
 clear hi315_0 hl315_0
 replace p315 := eq_true p315
 replace q315 := eq_true q315
 refine start_ (n := 11) (S := fun w' => w'.cell? ⟨gb314, 0, none⟩ = some (.int .i64 t303) ∧ w'.cell? ⟨gb314, 1, none⟩ = some (.int .i64 t304) ∧ w'.cell? ⟨gb314, 2, none⟩ = some (.int .i64 t305) ∧ w'.cell? ⟨gb314, 3, none⟩ = some (.slice Ao13 t306.length co13) ∧ w'.cell? ⟨gb314, 4, none⟩ = some (.int .i64 t309) ∧ w'.cell? ⟨gb314, 5, none⟩ = some (.int .i64 t310) ∧ w'.cell? ⟨gb314, 6, none⟩ = some (.slice (some ad315) t311.length co14) ∧ w'.cell? (ad315.add ((ji5)).toNat) = some (.slice A315_0 (rd_L4 t311 (ji5)).length c315_0)) (ds := []) #[false, false, false, false, false, false, false, false, false, false, false] (by kernel_rfl) rfl rfl ⟨(blk_cell BK314.out 0).trans rfl, (blk_cell BK314.out 1).trans rfl, (blk_cell BK314.out 2).trans rfl, (blk_cell BK314.out 3).trans rfl, (blk_cell BK314.out 4).trans rfl, (blk_cell BK314.out 5).trans rfl, (blk_cell BK314.out 6).trans rfl, hx315_0⟩ (fun hHeld => ?_); refine with_tabW interlocklaw19_SwapMoves.tab2 interlocklaw19_SwapMoves.bits2 (fun HT_ HW_ => ?_)
 generalize w15.drew = w16 at HO308 HO313 BK314 HB HL315_0 HR315_0 hx315_0 hHeld ⊢
 refine pure_ (i := 0) (N := some 14) (v := ?_) (a' := ?_) #[true, false, false, false, false, false, false, false, false, false, false] rfl rfl (any_of HT_.out (by kernel_rfl)) (fun _ _ _ h => h) (Or.inl ⟨by rfl, ?_⟩) ?_ ?_
 rotate_left
 {
 intro w'
 go_simp
 with_reducible rfl
 }
 rotate_left
 {
 simp only [Act.put, sT_, sZ_, sS_, i64_w, i32_w]
 rfl
 }
 refine pure_ (i := 2) (N := some 16) (v := ?_) (a' := ?_) #[true, false, true, false, false, false, false, false, false, false, false] rfl rfl (any_of HT_.out (by kernel_rfl)) (fun _ _ _ h => h) (Or.inl ⟨by rfl, ?_⟩) ?_ ?_
 rotate_left
 {
 intro w'
 go_simp
 with_reducible rfl
 }
 rotate_left
 {
 simp only [Act.put, sT_, sZ_, sS_, i64_w, i32_w]
 rfl
 }
 refine pure_ (i := 3) (N := some 17) (v := ?_) (a' := ?_) #[true, false, true, true, false, false, false, false, false, false, false] rfl rfl (any_of HT_.out (by kernel_rfl)) (fun _ _ _ h => h) (Or.inl ⟨by rfl, ?_⟩) ?_ ?_
 rotate_left
 {
 intro w'
 go_simp
 with_reducible rfl
 }
 rotate_left
 {
 simp only [Act.put, sT_, sZ_, sS_, i64_w, i32_w]
 rfl
 }
 refine pure_ (i := 4) (N := some 18) (v := ?_) (a' := ?_) #[true, false, true, true, true, false, false, false, false, false, false] rfl rfl (any_of HT_.out (by kernel_rfl)) (fun _ _ _ h => h) (Or.inl ⟨by rfl, ?_⟩) ?_ ?_
 rotate_left
 {
 intro w'
 go_simp
 with_reducible rfl
 }
 rotate_left
 {
 simp only [Act.put, sT_, sZ_, sS_, i64_w, i32_w]
 rfl
 }
 refine take_ (i := 1) (N := some 15) (v := ?_) (a' := ?_) #[true, true, true, true, true, false, false, false, false, false, false] rfl rfl (take_ofW HT_.out HW_.out (by kernel_rfl)) (fun _ _ _ h => h) (Or.inl ⟨by rfl, ?_⟩) hHeld ?_ ?_
 rotate_left
 {
 rintro w' ⟨s0, s1, s2, s3, s4, s5, s6, s7⟩
 go_simp
 with_reducible rfl
 }
 rotate_left
 {
 simp only [Act.put, sT_, sZ_, sS_, i64_w, i32_w]
 rfl
 }
 refine take_ (i := 5) (N := some 19) (v := ?_) (a' := ?_) #[true, true, true, true, true, true, false, false, false, false, false] rfl rfl (take_ofW HT_.out HW_.out (by kernel_rfl)) (fun _ _ _ h => h) (Or.inl ⟨by rfl, ?_⟩) hHeld ?_ ?_
 rotate_left
 {
 rintro w' ⟨s0, s1, s2, s3, s4, s5, s6, s7⟩
 go_simp
 with_reducible rfl
 }
 rotate_left
 {
 simp only [Act.put, sT_, sZ_, sS_, i64_w, i32_w]
 rfl
 }
 refine pure_ (i := 6) (N := some 20) (v := ?_) (a' := ?_) #[true, true, true, true, true, true, true, false, false, false, false] rfl rfl (any_of HT_.out (by kernel_rfl)) (fun _ _ _ h => h) (Or.inl ⟨by rfl, ?_⟩) ?_ ?_
 rotate_left
 {
 intro w'
 go_simp
 with_reducible rfl
 }
 rotate_left
 {
 simp only [Act.put, sT_, sZ_, sS_, i64_w, i32_w]
 rfl
 }
 refine pure_ (i := 7) (N := some 21) (v := ?_) (a' := ?_) #[true, true, true, true, true, true, true, true, false, false, false] rfl rfl (any_of HT_.out (by kernel_rfl)) (fun _ _ _ h => h) (Or.inl ⟨by rfl, ?_⟩) ?_ ?_
 rotate_left
 {
 intro w'
 go_simp
 with_reducible rfl
 }
 rotate_left
 {
 simp only [Act.put, sT_, sZ_, sS_, i64_w, i32_w]
 rfl
 }
 refine pure_ (i := 8) (N := some 22) (v := ?_) (a' := ?_) #[true, true, true, true, true, true, true, true, true, false, false] rfl rfl (any_of HT_.out (by kernel_rfl)) (fun _ _ _ h => h) (Or.inl ⟨by rfl, ?_⟩) ?_ ?_
 rotate_left
 {
 intro w'
 go_simp
 with_reducible rfl
 }
 rotate_left
 {
 simp only [Act.put, sT_, sZ_, sS_, i64_w, i32_w]
 rfl
 }
 refine take_ (i := 9) (N := some 23) (v := ?_) (a' := ?_) #[true, true, true, true, true, true, true, true, true, true, false] rfl rfl (take_ofW HT_.out HW_.out (by kernel_rfl)) (fun _ _ _ h => h) (Or.inl ⟨by rfl, ?_⟩) hHeld ?_ ?_
 rotate_left
 {
 rintro w' ⟨s0, s1, s2, s3, s4, s5, s6, s7⟩
 go_simp
 with_reducible rfl
 }
 rotate_left
 {
 simp only [Act.put, sT_, sZ_, sS_, i64_w, i32_w]
 rfl
 }
 refine pure_ (i := 10) (N := some 6) (v := ?_) (a' := ?_) #[true, true, true, true, true, true, true, true, true, true, true] rfl rfl (any_of HT_.out (by kernel_rfl)) (fun _ _ _ h => h) (Or.inl ⟨by rfl, ?_⟩) ?_ ?_
 rotate_left
 {
 intro w'
 go_simp
 with_reducible rfl
 }
 rotate_left
 {
 simp only [Act.put, sT_, sZ_, sS_, i64_w, i32_w]
 rfl
 }
 refine done_ (done_of HT_.out (by kernel_rfl)) ?_
 go_upto_region 4 with (first | ((with_reducible refine gate_callee (f := 9) rfl ?_); refine goesL_ (some 25) rfl rfl Try.func9 (by kernel_rfl) rfl #[.slice A315_0 (rd_L4 t311 (ji5)).length c315_0] rfl (by (try simp only [List.map_toArray, List.map_cons, List.map_nil]); first | done | (simp only [hji5]; rfl) | rfl | (simp only [List.length_drop, List.length_take]; rfl)) ?_; (with_reducible refine (swap_Code.calls k _ _ (rd_L4 t311 (ji5)) t316 t319 _ ?side1 ?side2 A8.out).mono ?_); (case side1 => repeat (first | exact (by repeat (first | (with_reducible exact HR315_0.out) | (with_reducible refine Kd.C_alloc ?_ _) | (with_reducible refine Kd.C_drewN ?_ _) | (with_reducible refine Kd.C_drew ?_) | exact HR315_0.out)) | (with_reducible refine Kd.C_alloc ?_ _) | (with_reducible refine Kd.C_drewN ?_ _) | (with_reducible refine Kd.C_drew ?_))); (case side2 => exact HC315_0.out); rintro e w17 ⟨v317, v320, rfl, ho0, ho1, hb⟩; refine ⟨_, rfl, ?_⟩; have n0_ := Aside0.mk (Kd.R_elder' (by (with_reducible repeat (first | apply Kd.R_alloc | apply Kd.R_drewN | apply Kd.R_drew)); exact HO308.out) (Kd.R_base ho1) hb); have n1_ := Aside0.mk (Kd.S_elder' (by (with_reducible repeat (first | apply Kd.S_alloc | apply Kd.S_drewN | apply Kd.S_drew)); exact HO313.out) (Kd.R_base ho0) hb); have n2_ := Aside0.mk (Kd.R_elder' (by (with_reducible repeat (first | apply Kd.R_alloc | apply Kd.R_drewN | apply Kd.R_drew)); exact HL315_0.out) (Kd.R_base ho0) hb); have n3_ := Aside0.mk (Kd.R_lower (Kd.R_new' ho0 (Kd.R_lt (by (with_reducible repeat (first | apply Kd.R_alloc | apply Kd.R_drewN | apply Kd.R_drew)); exact HL315_0.out))) (below_size (by repeat (first | (with_reducible first | exact HB.out | apply below_alloc | apply pw_below_drewN | apply below_drew1 | refine below_set ?_ GE314.out) | exact HB.out)))); have n4_ := Aside0.mk (Kd.R_lower (Kd.R_new' ho1 (Kd.R_lt (by (with_reducible repeat (first | apply Kd.R_alloc | apply Kd.R_drewN | apply Kd.R_drew)); exact HO308.out))) (below_size (by repeat (first | (with_reducible first | exact HB.out | apply below_alloc | apply pw_below_drewN | apply below_drew1 | refine below_set ?_ GE314.out) | exact HB.out)))); have n5_ := Aside0.mk (blk_below (g := gb314) (o := .cells #[.int .i64 t303, .int .i64 t304, .int .i64 t305, .slice Ao13 t306.length co13, .int .i64 t309, .int .i64 t310, .slice (some ad315) t311.length co14] 26 (0, 0)) (by (with_reducible repeat (first | refine blk_drewN ?_ _ | refine blk_drew ?_ | refine blk_alloc ?_ _)); exact BK314.out) hb); have n6_ := Aside0.mk (Kd.C_below (by repeat (first | (with_reducible exact HR315_0.out) | (with_reducible refine Kd.C_alloc ?_ _) | (with_reducible refine Kd.C_drewN ?_ _) | (with_reducible refine Kd.C_drew ?_) | exact HR315_0.out)) hb); have n7_ := Aside0.mk (below_step (by repeat (first | (with_reducible first | exact HB.out | apply below_alloc | apply pw_below_drewN | apply below_drew1 | refine below_set ?_ GE314.out) | exact HB.out)) hb); clear HO308; clear HO313; clear HL315_0; clear BK314; clear HR315_0; clear HB; have HO308 := n0_; have HO313 := n1_; have HL315_0 := n2_; have HO318 := n3_; have HO321 := n4_; have BK314 := n5_; have HR315_0 := n6_; have HB := n7_; clear n0_ n1_ n2_ n3_ n4_ n5_ n6_ n7_; (try clear hb); (try clear hb2); (try clear hk); (try clear hi); (try clear ho0); (try clear ho1)) | ((with_reducible refine gate_dst (N := 7) rfl ?_); (try (refine gate_guard (by rfl) ?_; dsimp only)); refine box_event ?hg (N := 7) ?hd (cs := #[.slice none 0 0, .slice none 0 0]) (t := 30) ?hr ?_; (case hd => rfl); (case hg => rfl); (case hr => first | (go_simp; done) | (go_simp; rfl)); intro gb322 hg w18 hbox hb; have n0_ := Aside0.mk (Kd.R_below (by (with_reducible repeat (first | apply Kd.R_alloc | apply Kd.R_drewN | apply Kd.R_drew)); exact HO308.out) hb); have n1_ := Aside0.mk (Kd.S_below (by (with_reducible repeat (first | apply Kd.S_alloc | apply Kd.S_drewN | apply Kd.S_drew)); exact HO313.out) hb); have n2_ := Aside0.mk (Kd.R_below (by (with_reducible repeat (first | apply Kd.R_alloc | apply Kd.R_drewN | apply Kd.R_drew)); exact HL315_0.out) hb); have n3_ := Aside0.mk (Kd.R_below (by (with_reducible repeat (first | apply Kd.R_alloc | apply Kd.R_drewN | apply Kd.R_drew)); exact HO318.out) hb); have n4_ := Aside0.mk (Kd.R_below (by (with_reducible repeat (first | apply Kd.R_alloc | apply Kd.R_drewN | apply Kd.R_drew)); exact HO321.out) hb); have n5_ := Aside0.mk (blk_below (g := gb314) (o := .cells #[.int .i64 t303, .int .i64 t304, .int .i64 t305, .slice Ao13 t306.length co13, .int .i64 t309, .int .i64 t310, .slice (some ad315) t311.length co14] 26 (0, 0)) (by (with_reducible repeat (first | refine blk_drewN ?_ _ | refine blk_drew ?_ | refine blk_alloc ?_ _)); exact BK314.out) hb); have n6_ := Aside0.mk (Kd.C_below (by repeat (first | (with_reducible exact HR315_0.out) | (with_reducible refine Kd.C_alloc ?_ _) | (with_reducible refine Kd.C_drewN ?_ _) | (with_reducible refine Kd.C_drew ?_) | exact HR315_0.out)) hb); have n7_ := Aside0.mk (below_step (by repeat (first | (with_reducible first | exact HB.out | apply below_alloc | apply pw_below_drewN | apply below_drew1 | refine below_set ?_ GE314.out) | exact HB.out)) hb); have n8_ := Aside0.mk (hbox); have n9_ := Aside0.mk ((by rw [hg]; exact (below_size (by repeat (first | (with_reducible first | exact HB.out | apply below_alloc | apply pw_below_drewN | apply below_drew1 | refine below_set ?_ GE314.out) | exact HB.out))) : w.heap.size ≤ gb322)); have n10_ := Aside0.mk ((by rw [hg]; exact (below_size (by repeat (first | (with_reducible first | exact HB.out | apply below_alloc | apply pw_below_drewN | apply below_drew1 | refine below_set ?_ GE314.out) | exact HB.out))) : w.heap.size ≤ gb322)); have n11_ := Aside0.mk ((by rw [hg]; exact Nat.ne_of_lt (blk_lt (g := gb314) (o := .cells #[.int .i64 t303, .int .i64 t304, .int .i64 t305, .slice Ao13 t306.length co13, .int .i64 t309, .int .i64 t310, .slice (some ad315) t311.length co14] 26 (0, 0)) (by (with_reducible repeat (first | refine blk_drewN ?_ _ | refine blk_drew ?_ | refine blk_alloc ?_ _)); exact BK314.out)) : gb314 ≠ gb322)); have n12_ := Aside0.mk ((by rw [hg]; exact Nat.ne_of_gt (blk_lt (g := gb314) (o := .cells #[.int .i64 t303, .int .i64 t304, .int .i64 t305, .slice Ao13 t306.length co13, .int .i64 t309, .int .i64 t310, .slice (some ad315) t311.length co14] 26 (0, 0)) (by (with_reducible repeat (first | refine blk_drewN ?_ _ | refine blk_drew ?_ | refine blk_alloc ?_ _)); exact BK314.out)) : gb322 ≠ gb314)); clear HO308; clear HO313; clear HL315_0; clear HO318; clear HO321; clear BK314; clear HR315_0; clear HB; have HO308 := n0_; have HO313 := n1_; have HL315_0 := n2_; have HO318 := n3_; have HO321 := n4_; have BK314 := n5_; have HR315_0 := n6_; have HB := n7_; have BK322 := n8_; have GW322 := n9_; have GE322 := n10_; have NB314_322 := n11_; have NB322_314 := n12_; clear n0_ n1_ n2_ n3_ n4_ n5_ n6_ n7_ n8_ n9_ n10_ n11_ n12_; clear hb hbox hg; obtain ⟨Ao19, co19, eo19⟩ := Kd.R_slice HO318.out; subst eo19; have hnb20 := NB322_314.out; have hnc20 := NB314_322.out; have hcz21_0 : w18.cell? ⟨gb322, 0, none⟩ = some (.slice none 0 0) := (blk_cell BK322.out 0).trans rfl; have hcz21_1 : w18.cell? ⟨gb322, 1, none⟩ = some (.slice none 0 0) := (blk_cell BK322.out 1).trans rfl; have hfz21_0 := blk_frozen BK322.out 0; have hfz21_1 := blk_frozen BK322.out 1; obtain ⟨Ao22, co22, eo22⟩ := Kd.R_slice HO321.out; subst eo22))
 (try simp only [Act.put, sT_, sZ_, sS_])
 have H := HC9.out
 clear HC9
 unfold interlocklaw19_SwapMoves.g at H
 by_cases e1 : t316.length = (rd_L4 t311 (ji5)).length
 case neg => rw [if_neg e1] at H; cases H
 rw [if_pos e1] at H
 by_cases e2 : t319.length = (rd_L4 t311 (ji5)).length
 case neg => rw [if_neg e2] at H; cases H
 rw [if_pos e2] at H
 by_cases e3 : (rd_L4 t311 (ji5)).length ≤ 1000000
 case neg => rw [if_neg e3] at H; cases H
 rw [if_pos e3] at H
 have H' := Aside0.mk H
 have E1 := Aside0.mk e1
 have E2 := Aside0.mk e2
 have E3 := Aside0.mk e3
 clear H
 go_cut [39] (fun v39 wc => v39 = .bool false ∧ Aside0 (Kd.R k33 33 wc w.heap.size (fun _ => True) (.slice Ao19 t316.length co19) t316) ∧ Aside0 (Kd.R (Kd.int .i64) 3 wc w.heap.size (fun k_ => some k_ ≠ ((.slice Ao13 t306.length co13) : Value).ownBlock) (.slice Ao22 t319.length co22) t319) ∧ Aside0 (wc.heap[gb322]? = some (.cells #[(.slice Ao19 t316.length co19), (.slice Ao22 t319.length co22)] 30 (0, 0))) ∧ Aside0 (Kd.C k33 wc A315_0 (rd_L4 t311 (ji5)).length (rd_L4 t311 (ji5))) ∧ Aside0 (Below w.heap.size w wc))
 case first => (
 have c23b0 : ((t316.length : Int) == ((rd_L4 t311 (ji5)).length : Int)) = true := beq_iff_eq.mpr (by omega)
 have c23b1 : ((t316.length : Int) != ((rd_L4 t311 (ji5)).length : Int)) = false := bne_eq_false_iff_eq.mpr (by omega)
 have c23b2 : (t316.length == (rd_L4 t311 (ji5)).length) = true := by simpa using e1
 have c24b0 : ((t319.length : Int) == ((rd_L4 t311 (ji5)).length : Int)) = true := beq_iff_eq.mpr (by omega)
 have c24b1 : ((t319.length : Int) != ((rd_L4 t311 (ji5)).length : Int)) = false := bne_eq_false_iff_eq.mpr (by omega)
 have c24b2 : (t319.length == (rd_L4 t311 (ji5)).length) = true := by simpa using e2
 clear e1 e2 e3
 have hnb24 := NB322_314.out
 have hnc24 := NB314_322.out
 have hcz25_0 : w18.cell? ⟨gb322, 0, none⟩ = some (.slice none 0 0) := (blk_cell BK322.out 0).trans rfl
 have hcz25_1 : w18.cell? ⟨gb322, 1, none⟩ = some (.slice none 0 0) := (blk_cell BK322.out 1).trans rfl
 have hfz25_0 := blk_frozen BK322.out 0
 have hfz25_1 := blk_frozen BK322.out 1
 go_wp2
 go_meet
 case rel => exact ⟨(by first | rfl | (simp; done) | (simp [*]; done)), ⟨by (with_reducible repeat (first | apply Kd.R_alloc | apply Kd.R_drewN | apply Kd.R_drew)); exact Kd.R_mono (Kd.R_far (p := ⟨gb322, 1, none⟩) (Kd.R_far (p := ⟨gb322, 0, none⟩) (Kd.R_types HO318.out BK322.out (by decide)) (fun _ hk => hk.2) (.slice Ao19 t316.length co19)) (fun _ hk => hk.2) (.slice Ao22 t319.length co22)) (fun _ hk => trivial)⟩, ⟨by (with_reducible repeat (first | apply Kd.R_alloc | apply Kd.R_drewN | apply Kd.R_drew)); exact Kd.R_mono (Kd.R_far (p := ⟨gb322, 1, none⟩) (Kd.R_far (p := ⟨gb322, 0, none⟩) (Kd.R_types HO321.out BK322.out (by decide)) (fun _ hk => hk.2) (.slice Ao19 t316.length co19)) (fun _ hk => hk.2) (.slice Ao22 t319.length co22)) (fun _ hk => hk.1.2)⟩, ⟨by (with_reducible repeat (first | refine blk_drewN ?_ _ | refine blk_drew ?_ | refine blk_alloc ?_ _)); refine blk_put (cs := #[.slice Ao19 t316.length co19, .slice none 0 0]) ?_ 1 _ rfl; (with_reducible repeat (first | refine blk_drewN ?_ _ | refine blk_drew ?_ | refine blk_alloc ?_ _)); refine blk_put (cs := #[.slice none 0 0, .slice none 0 0]) ?_ 0 _ rfl; (with_reducible repeat (first | refine blk_drewN ?_ _ | refine blk_drew ?_ | refine blk_alloc ?_ _)); exact BK322.out⟩, ⟨(Kd.R_reads' (by (with_reducible repeat (first | apply Kd.R_alloc | apply Kd.R_drewN | apply Kd.R_drew)); exact (Kd.R_mono (Kd.R_far (p := ⟨gb322, 1, none⟩) (Kd.R_far (p := ⟨gb322, 0, none⟩) (Kd.R_types HL315_0.out BK322.out (by decide)) (fun _ hk => hk.2) (.slice Ao19 t316.length co19)) (fun _ hk => hk.2) (.slice Ao22 t319.length co22)) (fun _ h_ => h_.1)))).2.2⟩, ⟨by repeat (first | (with_reducible first | exact HB.out | apply below_alloc | apply pw_below_drewN | apply below_drew1 | refine below_set ?_ GE314.out | refine below_set ?_ GE322.out) | exact HB.out)⟩⟩
 )
 case rest => (
 clear e1 e2
 obtain ⟨rfl, RE, RF, BE, RC, HB⟩ := hcut
 try clear c2
 try clear p2
 try clear c3
 try clear p3
 try clear q3
 try clear hx3
 try clear c4
 try clear c4b0
 try clear c4b1
 try clear c4b2
 try clear c6b0
 try clear p6
 try clear c7b0
 have n0 := eq_true (show (0 : Int) ≤ ((rd_L4 t311 (ji5)).length : Int) by omega)
 have MK1 : Aside0 ((0 : Int) ≤ ((rd_L4 t311 (ji5)).length : Int)) := ⟨by omega⟩
 have MK2 : Aside0 (((rd_L4 t311 (ji5)).length : Int).toNat * 8 ≤ 281474976710656) := ⟨by omega⟩
 clear e3
 go_wp2_with (first | ((with_reducible refine gate_dst (N := 42) rfl ?_); (try (refine gate_guard (by rfl) ?_; dsimp only)); refine Kd.R_make (Kd.int .i64) _ 3 rfl (N := 42) rfl 23 _ _ rfl ((rd_L4 t311 (ji5)).length : Int) rfl rfl Try.underlying23 (.int .i64 0) 8 info3 rfl (by decide) (by omega) 0 (ok := fun _ => True) (okp := fun _ => True) rfl (fun _ hk => hk) trivial MK1.out MK2.out (Below.refl _ _) (Nat.le_refl _) ?_; intro vS w31 ho32 hb hg_ hnew_; clear hg_ hnew_; have RS0 := Aside0.mk ho32; have HL0 := Aside0.mk hb; clear hb ho32))
 rw [Int.toNat_natCast] at RS0
 go_loopg [9] k (fun kq v9 w' => ∃ (i : Nat) (x : Int) (sn : List Int), v9 = .int .i64 x ∧ Aside0 (x = (i : Int)) ∧ Aside0 (i ≤ (rd_L4 t311 (ji5)).length) ∧ Aside0 (sn.length = (rd_L4 t311 (ji5)).length) ∧ Aside0 (interlocklaw19_SwapMoves.l0 kq (rd_L4 t311 (ji5)) t316 t319 sn i = some r) ∧ Aside0 (kq ≤ k) ∧ Aside0 (Kd.R (Kd.int .i64) 3 w' wc.heap.size (fun _ => True) vS sn) ∧ Aside0 (Below wc.heap.size wc w'))
 case atStart => exact ⟨0, 0, List.replicate (rd_L4 t311 (ji5)).length 0, rfl, ⟨rfl⟩, ⟨Nat.zero_le _⟩, ⟨by simp⟩, H', ⟨Nat.le_refl _⟩, RS0, HL0⟩
 case round => (
 clear RS0 HL0 MK1 MK2 H'
 obtain ⟨i, x, sn, rfl, HX, HI, HN, HA, HK1, RS, HL⟩ := hrel
 cases gk with
 | zero => exact absurd HA.out (by simp [interlocklaw19_SwapMoves.l0])
 | succ k1 => (
 have H := HA.out
 clear HA
 simp only [interlocklaw19_SwapMoves.l0] at H
 have CE : Aside0 (wc.cell? ⟨gb322, 0, none⟩ = some (.slice Ao19 t316.length co19)) := ⟨(blk_cell BE.out 0).trans rfl⟩
 have CF : Aside0 (wc.cell? ⟨gb322, 1, none⟩ = some (.slice Ao22 t319.length co22)) := ⟨(blk_cell BE.out 1).trans rfl⟩
 by_cases hlt : i < (rd_L4 t311 (ji5)).length
 {
 rw [if_pos hlt] at H
 have e1 := E1.out
 have e2 := E2.out
 have e3 := E3.out
 have hx := HX.out
 have hn := HN.out
 obtain ⟨y, ey⟩ : ∃ y : Int, t319.getD i 0 = y := ⟨_, rfl⟩
 rw [ey] at H
 by_cases c0 : 0 ≤ y
 case neg => rw [if_neg c0] at H; cases H
 rw [if_pos c0] at H
 by_cases c1 : y < ((rd_L4 t311 (ji5)).length : Int)
 case neg => rw [if_neg c1] at H; cases H
 rw [if_pos c1] at H
 by_cases c2 : sn.getD y.toNat 0 = 1
 case pos => rw [if_pos c2] at H; cases H
 rw [if_neg c2] at H
 by_cases c3 : (t316.getD i z33).f0 = ((rd_L4 t311 (ji5)).getD y.toNat z33).f0 ∧ (t316.getD i z33).f1 = ((rd_L4 t311 (ji5)).getD y.toNat z33).f1 ∧ (t316.getD i z33).f2 = ((rd_L4 t311 (ji5)).getD y.toNat z33).f2 ∧ (t316.getD i z33).f3 = ((rd_L4 t311 (ji5)).getD y.toNat z33).f3
 case neg => rw [if_neg c3] at H; cases H
 rw [if_pos c3] at H
 replace c3 := S33_ext c3
 obtain ⟨t1, A1, H⟩ := Option.bind_eq_some_iff.1 H
 obtain ⟨t2, A2, H⟩ := Option.bind_eq_some_iff.1 H
 by_cases c4 : t1 = t2
 case neg => rw [if_neg c4] at H; cases H
 rw [if_pos c4] at H
 subst c4
 rw [← hx] at A1
 have A1 := Aside0.mk A1
 have A2 := Aside0.mk A2
 obtain ⟨gs, cs, eS, gbS, _, _, _⟩ := Kd.R_form RS.out (by omega)
 subst eS
 obtain ⟨adE, eE, qa0, qa1, qa2, qa3⟩ := at_T33 (Kd.R_reads' RE.out).2.2 x (by omega) (by omega)
 obtain ⟨adF, eF, qf⟩ := Kd.at_int (Kd.R_reads' RF.out).2.2 x (by omega) (by omega)
 obtain ⟨adC, eC, qc0, qc1, qc2, qc3⟩ := at_T33 RC.out y (by omega) (by omega)
 cases eE
 cases eF
 subst eC
 have exi : x.toNat = i := by omega
 have ea : rd_T33 t316 x = t316.getD i z33 := by unfold rd_T33; rw [exi]
 have ec : rd_T33 (rd_L4 t311 (ji5)) y = t316.getD i z33 := by unfold rd_T33; rw [c3]
 have ef : rd t319 x = y := by unfold rd; rw [exi]; exact ey
 rw [ea] at qa0 qa1 qa2 qa3
 rw [ec] at qc0 qc1 qc2 qc3
 rw [ef] at qf
 generalize t316.getD i z33 = a at qa0 qa1 qa2 qa3 qc0 qc1 qc2 qc3
 obtain ⟨hs0, hsf⟩ := Kd.R_celln 0 RS.out y (by omega) (by omega)
 rw [show rdOf 0 sn y = sn.getD y.toNat 0 from rfl] at hs0
 generalize sn.getD y.toNat 0 = sv at hs0 c2
 have HP := Aside0.mk (Kd.R_putg RS.out y 1)
 have bs : (sv == 1) = false := beq_eq_false_iff_ne.mpr c2
 have bx : decide (x < ((rd_L4 t311 (ji5)).length : Int)) = true := decide_eq_true (by omega)
 have by0 : decide (y < 0) = false := decide_eq_false (by omega)
 have by1 : decide (((rd_L4 t311 (ji5)).length : Int) ≤ y) = false := decide_eq_false (by omega)
 have by2 : decide (0 ≤ y) = true := decide_eq_true (by omega)
 have by3 : decide (y < ((rd_L4 t311 (ji5)).length : Int)) = true := decide_eq_true (by omega)
 have px0 := eq_true (show 0 ≤ x by omega)
 have px1 := eq_true (show x < (t319.length : Int) by omega)
 have px2 := eq_true (show x < (t316.length : Int) by omega)
 have py0 := eq_true (show 0 ≤ y by omega)
 have py1 := eq_true (show y < ((rd_L4 t311 (ji5)).length : Int) by omega)
 have py2 := eq_true (show y < (sn.length : Int) by omega)
 have btt : (t1 != t1) = false := bne_self_eq_false _
 have hcf := pw_cell_below HL.out CF.out
 have hef := pw_cell_below HL.out qf
 have HY := Aside0.mk c0
 have HY1 := Aside0.mk c1
 have HLT := Aside0.mk hlt
 have QE := Aside0.mk ey
 have QA0 := Aside0.mk qa0
 have QA1 := Aside0.mk qa1
 have QA2 := Aside0.mk qa2
 have QA3 := Aside0.mk qa3
 have QC0 := Aside0.mk qc0
 have QC1 := Aside0.mk qc1
 have QC2 := Aside0.mk qc2
 have QC3 := Aside0.mk qc3
 clear c0 c1 c2 c3 hlt e1 e2 e3 hx hn ey exi ea ec ef qf qa0 qa1 qa2 qa3 qc0 qc1 qc2 qc3
 go_wp2
 try go_wp2
 have ce_ := pw_cell_below HL.out CE.out
 have RSd := Aside0.mk (Kd.R_drew RS.out)
 have HLd := Aside0.mk (below_drew1 HL.out)
 refine start_ (n := 36) (S := fun w' => w'.cell? ⟨gs, y.toNat, none⟩ = some (.int .i64 sv) ∧ w'.cell? ⟨gb322, 0, none⟩ = some (.slice (some adE) t316.length co19) ∧ w'.cell? (adE.add (x.toNat * 4)) = some (.int .u8 a.f0) ∧ w'.cell? ⟨(adE.add (x.toNat * 4)).block, (adE.add (x.toNat * 4)).off + 1, none⟩ = some (.int .i64 a.f1) ∧ w'.cell? ⟨(adE.add (x.toNat * 4)).block, (adE.add (x.toNat * 4)).off + 2, none⟩ = some (.int .i64 a.f2) ∧ w'.cell? ⟨(adE.add (x.toNat * 4)).block, (adE.add (x.toNat * 4)).off + 3, none⟩ = some (.int .i64 a.f3) ∧ w'.cell? (adC.add (y.toNat * 4)) = some (.int .u8 a.f0) ∧ w'.cell? ⟨(adC.add (y.toNat * 4)).block, (adC.add (y.toNat * 4)).off + 1, none⟩ = some (.int .i64 a.f1) ∧ w'.cell? ⟨(adC.add (y.toNat * 4)).block, (adC.add (y.toNat * 4)).off + 2, none⟩ = some (.int .i64 a.f2) ∧ w'.cell? ⟨(adC.add (y.toNat * 4)).block, (adC.add (y.toNat * 4)).off + 3, none⟩ = some (.int .i64 a.f3)) (ds := []) #[false, false, false, false, false, false, false, false, false, false, false, false, false, false, false, false, false, false, false, false, false, false, false, false, false, false, false, false, false, false, false, false, false, false, false, false] (by kernel_rfl) rfl rfl ⟨hs0, ce_, pw_cell_below HL.out QA0.out, pw_cell_below HL.out QA1.out, pw_cell_below HL.out QA2.out, pw_cell_below HL.out QA3.out, pw_cell_below HL.out QC0.out, pw_cell_below HL.out QC1.out, pw_cell_below HL.out QC2.out, pw_cell_below HL.out QC3.out⟩ (fun hHeld => ?_)
 refine with_tabW interlocklaw19_SwapMoves.tab11 interlocklaw19_SwapMoves.bits11 (fun HT_ HW_ => ?_)
 clear hs0 hsf ce_ hcf hef HP
 generalize wr.drew = w1 at RSd HLd hHeld ⊢
 clear RS HL
 refine pure_ (i := 0) (N := some 54) (v := ?_) (a' := ?_) #[true, false, false, false, false, false, false, false, false, false, false, false, false, false, false, false, false, false, false, false, false, false, false, false, false, false, false, false, false, false, false, false, false, false, false, false] rfl rfl (any_of HT_.out (by kernel_rfl)) (fun _ _ _ h => h) (Or.inl ⟨by rfl, ?_⟩) ?_ ?_
 rotate_left
 {
 intro w'
 go_simp
 with_reducible rfl
 }
 rotate_left
 {
 (try simp only [Act.put, sT_, sZ_, sS_, i64_w, i32_w]); rfl
 }
 refine pure_ (i := 1) (N := some 55) (v := ?_) (a' := ?_) #[true, true, false, false, false, false, false, false, false, false, false, false, false, false, false, false, false, false, false, false, false, false, false, false, false, false, false, false, false, false, false, false, false, false, false, false] rfl rfl (any_of HT_.out (by kernel_rfl)) (fun _ _ _ h => h) (Or.inl ⟨by rfl, ?_⟩) ?_ ?_
 rotate_left
 {
 intro w'
 go_simp
 with_reducible rfl
 }
 rotate_left
 {
 (try simp only [Act.put, sT_, sZ_, sS_, i64_w, i32_w]); rfl
 }
 refine pure_ (i := 2) (N := some 56) (v := ?_) (a' := ?_) #[true, true, true, false, false, false, false, false, false, false, false, false, false, false, false, false, false, false, false, false, false, false, false, false, false, false, false, false, false, false, false, false, false, false, false, false] rfl rfl (any_of HT_.out (by kernel_rfl)) (fun _ _ _ h => h) (Or.inl ⟨by rfl, ?_⟩) ?_ ?_
 rotate_left
 {
 intro w'
 go_simp
 with_reducible rfl
 }
 rotate_left
 {
 (try simp only [Act.put, sT_, sZ_, sS_, i64_w, i32_w]); rfl
 }
 refine pure_ (i := 3) (N := some 57) (v := ?_) (a' := ?_) #[true, true, true, true, false, false, false, false, false, false, false, false, false, false, false, false, false, false, false, false, false, false, false, false, false, false, false, false, false, false, false, false, false, false, false, false] rfl rfl (any_of HT_.out (by kernel_rfl)) (fun _ _ _ h => h) (Or.inl ⟨by rfl, ?_⟩) ?_ ?_
 rotate_left
 {
 intro w'
 go_simp
 with_reducible rfl
 }
 rotate_left
 {
 (try simp only [Act.put, sT_, sZ_, sS_, i64_w, i32_w]); rfl
 }
 refine pure_ (i := 4) (N := some 58) (v := ?_) (a' := ?_) #[true, true, true, true, true, false, false, false, false, false, false, false, false, false, false, false, false, false, false, false, false, false, false, false, false, false, false, false, false, false, false, false, false, false, false, false] rfl rfl (any_of HT_.out (by kernel_rfl)) (fun _ _ _ h => h) (Or.inl ⟨by rfl, ?_⟩) ?_ ?_
 rotate_left
 {
 intro w'
 go_simp
 with_reducible rfl
 }
 rotate_left
 {
 (try simp only [Act.put, sT_, sZ_, sS_, i64_w, i32_w]); rfl
 }
 refine pure_ (i := 5) (N := some 59) (v := ?_) (a' := ?_) #[true, true, true, true, true, true, false, false, false, false, false, false, false, false, false, false, false, false, false, false, false, false, false, false, false, false, false, false, false, false, false, false, false, false, false, false] rfl rfl (any_of HT_.out (by kernel_rfl)) (fun _ _ _ h => h) (Or.inl ⟨by rfl, ?_⟩) ?_ ?_
 rotate_left
 {
 intro w'
 go_simp
 with_reducible rfl
 }
 rotate_left
 {
 (try simp only [Act.put, sT_, sZ_, sS_, i64_w, i32_w]); rfl
 }
 refine pure_ (i := 6) (N := some 60) (v := ?_) (a' := ?_) #[true, true, true, true, true, true, true, false, false, false, false, false, false, false, false, false, false, false, false, false, false, false, false, false, false, false, false, false, false, false, false, false, false, false, false, false] rfl rfl (any_of HT_.out (by kernel_rfl)) (fun _ _ _ h => h) (Or.inl ⟨by rfl, ?_⟩) ?_ ?_
 rotate_left
 {
 intro w'
 go_simp
 with_reducible rfl
 }
 rotate_left
 {
 (try simp only [Act.put, sT_, sZ_, sS_, i64_w, i32_w]); rfl
 }
 refine pure_ (i := 7) (N := some 61) (v := ?_) (a' := ?_) #[true, true, true, true, true, true, true, true, false, false, false, false, false, false, false, false, false, false, false, false, false, false, false, false, false, false, false, false, false, false, false, false, false, false, false, false] rfl rfl (any_of HT_.out (by kernel_rfl)) (fun _ _ _ h => h) (Or.inl ⟨by rfl, ?_⟩) ?_ ?_
 rotate_left
 {
 intro w'
 go_simp
 with_reducible rfl
 }
 rotate_left
 {
 (try simp only [Act.put, sT_, sZ_, sS_, i64_w, i32_w]); rfl
 }
 refine pure_ (i := 8) (N := some 62) (v := ?_) (a' := ?_) #[true, true, true, true, true, true, true, true, true, false, false, false, false, false, false, false, false, false, false, false, false, false, false, false, false, false, false, false, false, false, false, false, false, false, false, false] rfl rfl (any_of HT_.out (by kernel_rfl)) (fun _ _ _ h => h) (Or.inl ⟨by rfl, ?_⟩) ?_ ?_
 rotate_left
 {
 intro w'
 go_simp
 with_reducible rfl
 }
 rotate_left
 {
 (try simp only [Act.put, sT_, sZ_, sS_, i64_w, i32_w]); rfl
 }
 refine pure_ (i := 9) (N := some 63) (v := ?_) (a' := ?_) #[true, true, true, true, true, true, true, true, true, true, false, false, false, false, false, false, false, false, false, false, false, false, false, false, false, false, false, false, false, false, false, false, false, false, false, false] rfl rfl (any_of HT_.out (by kernel_rfl)) (fun _ _ _ h => h) (Or.inl ⟨by rfl, ?_⟩) ?_ ?_
 rotate_left
 {
 intro w'
 go_simp
 with_reducible rfl
 }
 rotate_left
 {
 (try simp only [Act.put, sT_, sZ_, sS_, i64_w, i32_w]); rfl
 }
 refine pure_ (i := 10) (N := some 64) (v := ?_) (a' := ?_) #[true, true, true, true, true, true, true, true, true, true, true, false, false, false, false, false, false, false, false, false, false, false, false, false, false, false, false, false, false, false, false, false, false, false, false, false] rfl rfl (any_of HT_.out (by kernel_rfl)) (fun _ _ _ h => h) (Or.inl ⟨by rfl, ?_⟩) ?_ ?_
 rotate_left
 {
 intro w'
 go_simp
 with_reducible rfl
 }
 rotate_left
 {
 (try simp only [Act.put, sT_, sZ_, sS_, i64_w, i32_w]); rfl
 }
 refine pure_ (i := 11) (N := some 65) (v := ?_) (a' := ?_) #[true, true, true, true, true, true, true, true, true, true, true, true, false, false, false, false, false, false, false, false, false, false, false, false, false, false, false, false, false, false, false, false, false, false, false, false] rfl rfl (any_of HT_.out (by kernel_rfl)) (fun _ _ _ h => h) (Or.inl ⟨by rfl, ?_⟩) ?_ ?_
 rotate_left
 {
 intro w'
 go_simp
 with_reducible rfl
 }
 rotate_left
 {
 (try simp only [Act.put, sT_, sZ_, sS_, i64_w, i32_w]); rfl
 }
 refine take_ (i := 12) (N := some 66) (v := ?_) (a' := ?_) #[true, true, true, true, true, true, true, true, true, true, true, true, true, false, false, false, false, false, false, false, false, false, false, false, false, false, false, false, false, false, false, false, false, false, false, false] rfl rfl (take_ofW HT_.out HW_.out (by kernel_rfl)) (fun _ _ _ h => h) (Or.inl ⟨by rfl, ?_⟩) hHeld ?_ ?_
 rotate_left
 {
 rintro w' ⟨s0, s1, s2, s3, s4, s5, s6, s7, s8, s9⟩
 go_simp
 with_reducible rfl
 }
 rotate_left
 {
 (try simp only [Act.put, sT_, sZ_, sS_, i64_w, i32_w]); rfl
 }
 refine pure_ (i := 13) (N := some 67) (v := ?_) (a' := ?_) #[true, true, true, true, true, true, true, true, true, true, true, true, true, true, false, false, false, false, false, false, false, false, false, false, false, false, false, false, false, false, false, false, false, false, false, false] rfl rfl (any_of HT_.out (by kernel_rfl)) (fun _ _ _ h => h) (Or.inl ⟨by rfl, ?_⟩) ?_ ?_
 rotate_left
 {
 intro w'
 go_simp
 with_reducible rfl
 }
 rotate_left
 {
 (try simp only [Act.put, sT_, sZ_, sS_, i64_w, i32_w]); rfl
 }
 refine pure_ (i := 14) (N := some 68) (v := ?_) (a' := ?_) #[true, true, true, true, true, true, true, true, true, true, true, true, true, true, true, false, false, false, false, false, false, false, false, false, false, false, false, false, false, false, false, false, false, false, false, false] rfl rfl (any_of HT_.out (by kernel_rfl)) (fun _ _ _ h => h) (Or.inl ⟨by rfl, ?_⟩) ?_ ?_
 rotate_left
 {
 intro w'
 go_simp
 with_reducible rfl
 }
 rotate_left
 {
 (try simp only [Act.put, sT_, sZ_, sS_, i64_w, i32_w]); rfl
 }
 refine pure_ (i := 15) (N := some 69) (v := ?_) (a' := ?_) #[true, true, true, true, true, true, true, true, true, true, true, true, true, true, true, true, false, false, false, false, false, false, false, false, false, false, false, false, false, false, false, false, false, false, false, false] rfl rfl (any_of HT_.out (by kernel_rfl)) (fun _ _ _ h => h) (Or.inl ⟨by rfl, ?_⟩) ?_ ?_
 rotate_left
 {
 intro w'
 go_simp
 with_reducible rfl
 }
 rotate_left
 {
 (try simp only [Act.put, sT_, sZ_, sS_, i64_w, i32_w]); rfl
 }
 refine pure_ (i := 16) (N := some 70) (v := ?_) (a' := ?_) #[true, true, true, true, true, true, true, true, true, true, true, true, true, true, true, true, true, false, false, false, false, false, false, false, false, false, false, false, false, false, false, false, false, false, false, false] rfl rfl (any_of HT_.out (by kernel_rfl)) (fun _ _ _ h => h) (Or.inl ⟨by rfl, ?_⟩) ?_ ?_
 rotate_left
 {
 intro w'
 go_simp
 with_reducible rfl
 }
 rotate_left
 {
 (try simp only [Act.put, sT_, sZ_, sS_, i64_w, i32_w]); rfl
 }
 refine take_ (i := 17) (N := some 71) (v := ?_) (a' := ?_) #[true, true, true, true, true, true, true, true, true, true, true, true, true, true, true, true, true, true, false, false, false, false, false, false, false, false, false, false, false, false, false, false, false, false, false, false] rfl rfl (take_ofW HT_.out HW_.out (by kernel_rfl)) (fun _ _ _ h => h) (Or.inl ⟨by rfl, ?_⟩) hHeld ?_ ?_
 rotate_left
 {
 rintro w' ⟨s0, s1, s2, s3, s4, s5, s6, s7, s8, s9⟩
 go_simp
 with_reducible rfl
 }
 rotate_left
 {
 (try simp only [Act.put, sT_, sZ_, sS_, i64_w, i32_w]); rfl
 }
 refine pure_ (i := 18) (N := some 72) (v := ?_) (a' := ?_) #[true, true, true, true, true, true, true, true, true, true, true, true, true, true, true, true, true, true, true, false, false, false, false, false, false, false, false, false, false, false, false, false, false, false, false, false] rfl rfl (any_of HT_.out (by kernel_rfl)) (fun _ _ _ h => h) (Or.inl ⟨by rfl, ?_⟩) ?_ ?_
 rotate_left
 {
 intro w'
 go_simp
 with_reducible rfl
 }
 rotate_left
 {
 (try simp only [Act.put, sT_, sZ_, sS_, i64_w, i32_w]); rfl
 }
 refine pure_ (i := 19) (N := some 73) (v := ?_) (a' := ?_) #[true, true, true, true, true, true, true, true, true, true, true, true, true, true, true, true, true, true, true, true, false, false, false, false, false, false, false, false, false, false, false, false, false, false, false, false] rfl rfl (any_of HT_.out (by kernel_rfl)) (fun _ _ _ h => h) (Or.inl ⟨by rfl, ?_⟩) ?_ ?_
 rotate_left
 {
 intro w'
 go_simp
 with_reducible rfl
 }
 rotate_left
 {
 (try simp only [Act.put, sT_, sZ_, sS_, i64_w, i32_w]); rfl
 }
 refine take_ (i := 20) (N := some 74) (v := ?_) (a' := ?_) #[true, true, true, true, true, true, true, true, true, true, true, true, true, true, true, true, true, true, true, true, true, false, false, false, false, false, false, false, false, false, false, false, false, false, false, false] rfl rfl (take_ofW HT_.out HW_.out (by kernel_rfl)) (fun _ _ _ h => h) (Or.inl ⟨by rfl, ?_⟩) hHeld ?_ ?_
 rotate_left
 {
 rintro w' ⟨s0, s1, s2, s3, s4, s5, s6, s7, s8, s9⟩
 go_simp
 with_reducible rfl
 }
 rotate_left
 {
 (try simp only [Act.put, sT_, sZ_, sS_, i64_w, i32_w]); rfl
 }
 refine pure_ (i := 21) (N := some 75) (v := ?_) (a' := ?_) #[true, true, true, true, true, true, true, true, true, true, true, true, true, true, true, true, true, true, true, true, true, true, false, false, false, false, false, false, false, false, false, false, false, false, false, false] rfl rfl (any_of HT_.out (by kernel_rfl)) (fun _ _ _ h => h) (Or.inl ⟨by rfl, ?_⟩) ?_ ?_
 rotate_left
 {
 intro w'
 go_simp
 with_reducible rfl
 }
 rotate_left
 {
 (try simp only [Act.put, sT_, sZ_, sS_, i64_w, i32_w]); rfl
 }
 refine pure_ (i := 22) (N := some 76) (v := ?_) (a' := ?_) #[true, true, true, true, true, true, true, true, true, true, true, true, true, true, true, true, true, true, true, true, true, true, true, false, false, false, false, false, false, false, false, false, false, false, false, false] rfl rfl (any_of HT_.out (by kernel_rfl)) (fun _ _ _ h => h) (Or.inl ⟨by rfl, ?_⟩) ?_ ?_
 rotate_left
 {
 intro w'
 go_simp
 with_reducible rfl
 }
 rotate_left
 {
 (try simp only [Act.put, sT_, sZ_, sS_, i64_w, i32_w]); rfl
 }
 refine pure_ (i := 23) (N := some 77) (v := ?_) (a' := ?_) #[true, true, true, true, true, true, true, true, true, true, true, true, true, true, true, true, true, true, true, true, true, true, true, true, false, false, false, false, false, false, false, false, false, false, false, false] rfl rfl (any_of HT_.out (by kernel_rfl)) (fun _ _ _ h => h) (Or.inl ⟨by rfl, ?_⟩) ?_ ?_
 rotate_left
 {
 intro w'
 go_simp
 with_reducible rfl
 }
 rotate_left
 {
 (try simp only [Act.put, sT_, sZ_, sS_, i64_w, i32_w]); rfl
 }
 refine take_ (i := 24) (N := some 78) (v := ?_) (a' := ?_) #[true, true, true, true, true, true, true, true, true, true, true, true, true, true, true, true, true, true, true, true, true, true, true, true, true, false, false, false, false, false, false, false, false, false, false, false] rfl rfl (take_ofW HT_.out HW_.out (by kernel_rfl)) (fun _ _ _ h => h) (Or.inl ⟨by rfl, ?_⟩) hHeld ?_ ?_
 rotate_left
 {
 rintro w' ⟨s0, s1, s2, s3, s4, s5, s6, s7, s8, s9⟩
 go_simp
 with_reducible rfl
 }
 rotate_left
 {
 (try simp only [Act.put, sT_, sZ_, sS_, i64_w, i32_w]); rfl
 }
 refine pure_ (i := 25) (N := some 79) (v := ?_) (a' := ?_) #[true, true, true, true, true, true, true, true, true, true, true, true, true, true, true, true, true, true, true, true, true, true, true, true, true, true, false, false, false, false, false, false, false, false, false, false] rfl rfl (any_of HT_.out (by kernel_rfl)) (fun _ _ _ h => h) (Or.inl ⟨by rfl, ?_⟩) ?_ ?_
 rotate_left
 {
 intro w'
 go_simp
 with_reducible rfl
 }
 rotate_left
 {
 (try simp only [Act.put, sT_, sZ_, sS_, i64_w, i32_w]); rfl
 }
 refine pure_ (i := 26) (N := some 80) (v := ?_) (a' := ?_) #[true, true, true, true, true, true, true, true, true, true, true, true, true, true, true, true, true, true, true, true, true, true, true, true, true, true, true, false, false, false, false, false, false, false, false, false] rfl rfl (any_of HT_.out (by kernel_rfl)) (fun _ _ _ h => h) (Or.inl ⟨by rfl, ?_⟩) ?_ ?_
 rotate_left
 {
 intro w'
 go_simp
 with_reducible rfl
 }
 rotate_left
 {
 (try simp only [Act.put, sT_, sZ_, sS_, i64_w, i32_w]); rfl
 }
 refine pure_ (i := 27) (N := some 81) (v := ?_) (a' := ?_) #[true, true, true, true, true, true, true, true, true, true, true, true, true, true, true, true, true, true, true, true, true, true, true, true, true, true, true, true, false, false, false, false, false, false, false, false] rfl rfl (any_of HT_.out (by kernel_rfl)) (fun _ _ _ h => h) (Or.inl ⟨by rfl, ?_⟩) ?_ ?_
 rotate_left
 {
 intro w'
 go_simp
 with_reducible rfl
 }
 rotate_left
 {
 (try simp only [Act.put, sT_, sZ_, sS_, i64_w, i32_w]); rfl
 }
 refine pure_ (i := 28) (N := some 82) (v := ?_) (a' := ?_) #[true, true, true, true, true, true, true, true, true, true, true, true, true, true, true, true, true, true, true, true, true, true, true, true, true, true, true, true, true, false, false, false, false, false, false, false] rfl rfl (any_of HT_.out (by kernel_rfl)) (fun _ _ _ h => h) (Or.inl ⟨by rfl, ?_⟩) ?_ ?_
 rotate_left
 {
 intro w'
 go_simp
 with_reducible rfl
 }
 rotate_left
 {
 (try simp only [Act.put, sT_, sZ_, sS_, i64_w, i32_w]); rfl
 }
 refine pure_ (i := 29) (N := some 83) (v := ?_) (a' := ?_) #[true, true, true, true, true, true, true, true, true, true, true, true, true, true, true, true, true, true, true, true, true, true, true, true, true, true, true, true, true, true, false, false, false, false, false, false] rfl rfl (any_of HT_.out (by kernel_rfl)) (fun _ _ _ h => h) (Or.inl ⟨by rfl, ?_⟩) ?_ ?_
 rotate_left
 {
 intro w'
 go_simp
 with_reducible rfl
 }
 rotate_left
 {
 (try simp only [Act.put, sT_, sZ_, sS_, i64_w, i32_w]); rfl
 }
 refine pure_ (i := 31) (N := some 85) (v := ?_) (a' := ?_) #[true, true, true, true, true, true, true, true, true, true, true, true, true, true, true, true, true, true, true, true, true, true, true, true, true, true, true, true, true, true, false, true, false, false, false, false] rfl rfl (any_of HT_.out (by kernel_rfl)) (fun _ _ _ h => h) (Or.inl ⟨by rfl, ?_⟩) ?_ ?_
 rotate_left
 {
 intro w'
 go_simp
 with_reducible rfl
 }
 rotate_left
 {
 (try simp only [Act.put, sT_, sZ_, sS_, i64_w, i32_w]); rfl
 }
 refine pure_ (i := 32) (N := some 86) (v := ?_) (a' := ?_) #[true, true, true, true, true, true, true, true, true, true, true, true, true, true, true, true, true, true, true, true, true, true, true, true, true, true, true, true, true, true, false, true, true, false, false, false] rfl rfl (any_of HT_.out (by kernel_rfl)) (fun _ _ _ h => h) (Or.inl ⟨by rfl, ?_⟩) ?_ ?_
 rotate_left
 {
 intro w'
 go_simp
 with_reducible rfl
 }
 rotate_left
 {
 (try simp only [Act.put, sT_, sZ_, sS_, i64_w, i32_w]); rfl
 }
 refine one_ (i := 30) (N := some 84) #[true, true, true, true, true, true, true, true, true, true, true, true, true, true, true, true, true, true, true, true, true, true, true, true, true, true, true, true, true, true, true, true, true, false, false, false] rfl rfl (one_of HT_.out (by kernel_rfl)) (by decide) (fun K hK => ?_)
 refine goes_ Try.func10 (by kernel_rfl) rfl #[.slice (some adC) (rd_L4 t311 (ji5)).length c315_0, .int .i64 x] (by rfl) rfl rfl (by (try simp only [List.map_toArray, List.map_cons, List.map_nil]); first | done | rfl) ?_
 with_reducible refine (interlockref11_Head.calls k1 _ _ (rd_L4 t311 (ji5)) x t1 _ ?side1 ?side2 A1.out).mono ?_
 (case side1 => repeat (first | exact Kd.C_below RC.out HLd.out | (with_reducible refine Kd.C_drewN ?_ _) | (with_reducible refine Kd.C_drew ?_)))
 (case side2 => exact HC315_0.out)
 rintro e w' ⟨rfl, ⟨nd1, rfl⟩⟩
 refine ⟨_, rfl, ?_⟩
 refine hK.out _ _ hHeld (fun hHeld => ?_)
 clear hK K
 refine norm_ (a' := ?_) ?_ ?_
 rotate_left
 {
 show Act.put _ (some 84) _ = _
 simp only [Act.put, sT_, sZ_, sS_, i64_w, i32_w]
 rfl
 }
 refine one_ (i := 33) (N := some 87) #[true, true, true, true, true, true, true, true, true, true, true, true, true, true, true, true, true, true, true, true, true, true, true, true, true, true, true, true, true, true, true, true, true, true, false, false] rfl rfl (one_of HT_.out (by kernel_rfl)) (by decide) (fun K hK => ?_)
 refine goes_ Try.func10 (by kernel_rfl) rfl #[.slice (some adC) (rd_L4 t311 (ji5)).length c315_0, .int .i64 y] (by rfl) rfl rfl (by (try simp only [List.map_toArray, List.map_cons, List.map_nil]); first | done | rfl) ?_
 with_reducible refine (interlockref11_Head.calls k1 _ _ (rd_L4 t311 (ji5)) y t1 _ ?side1 ?side2 A2.out).mono ?_
 (case side1 => repeat (first | exact Kd.C_below RC.out HLd.out | (with_reducible refine Kd.C_drewN ?_ _) | (with_reducible refine Kd.C_drew ?_)))
 (case side2 => exact HC315_0.out)
 rintro e w' ⟨rfl, ⟨nd2, rfl⟩⟩
 refine ⟨_, rfl, ?_⟩
 refine hK.out _ _ hHeld (fun hHeld => ?_)
 clear hK K
 refine norm_ (a' := ?_) ?_ ?_
 rotate_left
 {
 show Act.put _ (some 87) _ = _
 simp only [Act.put, sT_, sZ_, sS_, i64_w, i32_w]
 rfl
 }
 refine pure_ (i := 34) (N := some 88) (v := ?_) (a' := ?_) #[true, true, true, true, true, true, true, true, true, true, true, true, true, true, true, true, true, true, true, true, true, true, true, true, true, true, true, true, true, true, true, true, true, true, true, false] rfl rfl (any_of HT_.out (by kernel_rfl)) (fun _ _ _ h => h) (Or.inl ⟨by rfl, ?_⟩) ?_ ?_
 rotate_left
 {
 intro w'
 go_simp
 with_reducible rfl
 }
 rotate_left
 {
 (try simp only [Act.put, sT_, sZ_, sS_, i64_w, i32_w]); rfl
 }
 refine pure_ (i := 35) (N := some 89) (v := ?_) (a' := ?_) #[true, true, true, true, true, true, true, true, true, true, true, true, true, true, true, true, true, true, true, true, true, true, true, true, true, true, true, true, true, true, true, true, true, true, true, true] rfl rfl (any_of HT_.out (by kernel_rfl)) (fun _ _ _ h => h) (Or.inl ⟨by rfl, ?_⟩) ?_ ?_
 rotate_left
 {
 intro w'
 go_simp
 with_reducible rfl
 }
 rotate_left
 {
 (try simp only [Act.put, sT_, sZ_, sS_, i64_w, i32_w]); rfl
 }
 refine done_ (done_of HT_.out (by kernel_rfl)) ?_
 have RSe := Aside0.mk (Kd.R_drewN (Kd.R_drewN RSd.out nd1) nd2)
 have HLe := Aside0.mk (pw_below_drewN (pw_below_drewN HLd.out nd1) nd2)
 clear hHeld
 generalize (w1.drewN nd1).drewN nd2 = w2 at RSe HLe ⊢
 obtain ⟨hs0, hsf⟩ := Kd.R_celln 0 RSe.out y HY.out (by have := HY1.out; have := HN.out; omega)
 have HP := Aside0.mk (Kd.R_putg RSe.out y 1)
 have GS := Aside0.mk gbS
 clear bs by0 by1 btt gbS
 go_wp2_with (first | ((with_reducible refine gate_store (t := 3) (p := 92) rfl ?_); refine store_event (t := 3) (p := 92) (v := ?vo_w) (w1 := (w2.setCell ⟨gs, y.toNat, none⟩ (.int .i64 1))) ?hg ?ho ?hn ?hr ?_; (case ho => rfl); (case hg => rfl); (case hn => rfl); (case hr => first | (go_simp; done) | (go_simp; rfl)); intro w3 hw; have RS3 : Aside0 (Kd.R (Kd.int .i64) 3 w3 wc.heap.size (fun _ => True) (.slice (some ⟨gs, 0, none⟩) sn.length cs) (sn.set y.toNat 1)) := ⟨by rw [hw]; exact HP.out.1⟩; have HL3 : Aside0 (Below wc.heap.size wc w3) := ⟨by rw [hw]; exact below_set HLe.out GS.out⟩; clear hw HP hs0 hsf RSe HLe))
 have HN3 : Aside0 ((sn.set y.toNat 1).length = (rd_L4 t311 (ji5)).length) := ⟨by rw [List.length_set]; exact HN.out⟩
 generalize sn.set y.toNat 1 = sn3 at RS3 HN3 H
 go_loopg [11] k1 (fun kq v11 w' => ∃ (jn : Nat) (z : Int), v11 = .int .i64 z ∧ Aside0 (z = (jn : Int)) ∧ Aside0 (jn ≤ i) ∧ Aside0 (interlocklaw19_SwapMoves.l1 kq (rd_L4 t311 (ji5)) t316 t319 sn3 i jn = some r) ∧ Aside0 (kq ≤ k1) ∧ Aside0 (Kd.R (Kd.int .i64) 3 w' wc.heap.size (fun _ => True) (.slice (some ⟨gs, 0, none⟩) sn.length cs) sn3) ∧ Aside0 (Below wc.heap.size wc w'))
 case atStart => exact ⟨0, 0, rfl, ⟨rfl⟩, ⟨Nat.zero_le _⟩, ⟨H⟩, ⟨Nat.le_refl _⟩, RS3, HL3⟩
 case round => (
 clear RS3 HL3 H
 obtain ⟨jn, z, rfl, HZ, HJ, HA2, HK2, RS4, HL4⟩ := hrel
 cases gk with
 | zero => exact absurd HA2.out (by simp [interlocklaw19_SwapMoves.l1])
 | succ k2 => (
 have H := HA2.out
 clear HA2
 simp only [interlocklaw19_SwapMoves.l1] at H
 by_cases hj : jn < i
 {
 rw [if_pos hj, QE.out] at H
 have hz := HZ.out
 have hx := HX.out
 have hi := HLT.out
 have e2 := E2.out
 have e3 := E3.out
 have hy := HY.out
 have hy1 := HY1.out
 obtain ⟨u, eu⟩ : ∃ u : Int, t319.getD jn 0 = u := ⟨_, rfl⟩
 rw [eu] at H
 obtain ⟨z1, hz1⟩ : ∃ q : Int, q = z + 1 := ⟨_, rfl⟩
 have hz64 : wrap64 (z + 1) = z1 := by unfold wrap64; omega
 have hzw : IntKind.i64.wrap (z + 1) = z1 := (i64_w _).trans hz64
 have bz : decide (z < x) = true := decide_eq_true (by omega)
 have pz0 := eq_true (show 0 ≤ z by omega)
 have pz1 := eq_true (show z < (t319.length : Int) by omega)
 obtain ⟨adF', eF', qg⟩ := Kd.at_int (Kd.R_reads' RF.out).2.2 z (by omega) (by omega)
 cases eF'
 have ezn : z.toNat = jn := by omega
 have eg : rd t319 z = u := by unfold rd; rw [ezn]; exact eu
 rw [eg] at qg
 have HZ1 : Aside0 (z1 = ((jn + 1 : Nat) : Int)) := ⟨by omega⟩
 have HJ1 : Aside0 (jn + 1 ≤ i) := ⟨by omega⟩
 by_cases hu : y < u
 {
 rw [if_pos hu] at H
 by_cases hu2 : u < ((rd_L4 t311 (ji5)).length : Int)
 case neg => rw [if_neg hu2] at H; cases H
 rw [if_pos hu2] at H
 obtain ⟨t3, A3, H⟩ := Option.bind_eq_some_iff.1 H
 cases t3 with
 | false => rw [if_neg (by decide)] at H; cases H
 | true => (
 rw [if_pos rfl] at H
 have A3 := Aside0.mk A3
 obtain ⟨adC', eC', qd0, qd1, qd2, qd3⟩ := at_T33 RC.out u (by omega) (by omega)
 obtain ⟨adC2, eC2, qe0, qe1, qe2, qe3⟩ := at_T33 RC.out y (by omega) (by omega)
 cases eC'
 cases eC2
 have ed : rd_T33 (rd_L4 t311 (ji5)) u = (rd_L4 t311 (ji5)).getD u.toNat z33 := rfl
 have ee : rd_T33 (rd_L4 t311 (ji5)) y = (rd_L4 t311 (ji5)).getD y.toNat z33 := rfl
 rw [ed] at qd0 qd1 qd2 qd3
 rw [ee] at qe0 qe1 qe2 qe3
 generalize (rd_L4 t311 (ji5)).getD u.toNat z33 = d at A3 qd0 qd1 qd2 qd3
 generalize (rd_L4 t311 (ji5)).getD y.toNat z33 = c at A3 qe0 qe1 qe2 qe3
 have bu : decide (y < u) = true := decide_eq_true hu
 have pu0 := eq_true (show 0 ≤ u by omega)
 have pu1 := eq_true (show u < ((rd_L4 t311 (ji5)).length : Int) by omega)
 clear hz hx hi e2 e3 hy hy1 eu hz1 ezn eg hu hu2 hj ed ee
 have g1 := pw_cell_below HL4.out CF.out
 have g2 := pw_cell_below HL4.out qg
 have gc0 := pw_cell_below HL4.out qe0
 have gc1 := pw_cell_below HL4.out qe1
 have gc2 := pw_cell_below HL4.out qe2
 have gc3 := pw_cell_below HL4.out qe3
 have gd0 := pw_cell_below HL4.out qd0
 have gd1 := pw_cell_below HL4.out qd1
 have gd2 := pw_cell_below HL4.out qd2
 have gd3 := pw_cell_below HL4.out qd3
 clear qg qd0 qd1 qd2 qd3 qe0 qe1 qe2 qe3
 go_wp2
 try go_wp2
 have RS5 := Aside0.mk (Kd.R_drew RS4.out)
 have HL5 := Aside0.mk (below_drew1 HL4.out)
 refine start_ (n := 23) (S := fun w' => w'.cell? ⟨gb322, 1, none⟩ = some (.slice (some adF) t319.length co22) ∧ w'.cell? (adF.add z.toNat) = some (.int .i64 u) ∧ w'.cell? (adC.add (y.toNat * 4)) = some (.int .u8 c.f0) ∧ w'.cell? ⟨(adC.add (y.toNat * 4)).block, (adC.add (y.toNat * 4)).off + 1, none⟩ = some (.int .i64 c.f1) ∧ w'.cell? ⟨(adC.add (y.toNat * 4)).block, (adC.add (y.toNat * 4)).off + 2, none⟩ = some (.int .i64 c.f2) ∧ w'.cell? ⟨(adC.add (y.toNat * 4)).block, (adC.add (y.toNat * 4)).off + 3, none⟩ = some (.int .i64 c.f3) ∧ w'.cell? (adC.add (u.toNat * 4)) = some (.int .u8 d.f0) ∧ w'.cell? ⟨(adC.add (u.toNat * 4)).block, (adC.add (u.toNat * 4)).off + 1, none⟩ = some (.int .i64 d.f1) ∧ w'.cell? ⟨(adC.add (u.toNat * 4)).block, (adC.add (u.toNat * 4)).off + 2, none⟩ = some (.int .i64 d.f2) ∧ w'.cell? ⟨(adC.add (u.toNat * 4)).block, (adC.add (u.toNat * 4)).off + 3, none⟩ = some (.int .i64 d.f3)) (ds := []) #[false, false, false, false, false, false, false, false, false, false, false, false, false, false, false, false, false, false, false, false, false, false, false] (by kernel_rfl) rfl rfl ⟨g1, g2, gc0, gc1, gc2, gc3, gd0, gd1, gd2, gd3⟩ (fun hHeld => ?_)
 refine with_tabW interlocklaw19_SwapMoves.tab17 interlocklaw19_SwapMoves.bits17 (fun HT_ HW_ => ?_)
 clear g1 g2 gc0 gc1 gc2 gc3 gd0 gd1 gd2 gd3
 generalize wr.drew = w4 at RS5 HL5 hHeld ⊢
 clear RS4 HL4
 refine pure_ (i := 0) (N := some 98) (v := ?_) (a' := ?_) #[true, false, false, false, false, false, false, false, false, false, false, false, false, false, false, false, false, false, false, false, false, false, false] rfl rfl (any_of HT_.out (by kernel_rfl)) (fun _ _ _ h => h) (Or.inl ⟨by rfl, ?_⟩) ?_ ?_
 rotate_left
 {
 intro w'
 go_simp
 with_reducible rfl
 }
 rotate_left
 {
 (try simp only [Act.put, sT_, sZ_, sS_, i64_w, i32_w]); rfl
 }
 refine take_ (i := 1) (N := some 99) (v := ?_) (a' := ?_) #[true, true, false, false, false, false, false, false, false, false, false, false, false, false, false, false, false, false, false, false, false, false, false] rfl rfl (take_ofW HT_.out HW_.out (by kernel_rfl)) (fun _ _ _ h => h) (Or.inl ⟨by rfl, ?_⟩) hHeld ?_ ?_
 rotate_left
 {
 rintro w' ⟨s0, s1, s2, s3, s4, s5, s6, s7, s8, s9⟩
 go_simp
 with_reducible rfl
 }
 rotate_left
 {
 (try simp only [Act.put, sT_, sZ_, sS_, i64_w, i32_w]); rfl
 }
 refine pure_ (i := 2) (N := some 100) (v := ?_) (a' := ?_) #[true, true, true, false, false, false, false, false, false, false, false, false, false, false, false, false, false, false, false, false, false, false, false] rfl rfl (any_of HT_.out (by kernel_rfl)) (fun _ _ _ h => h) (Or.inl ⟨by rfl, ?_⟩) ?_ ?_
 rotate_left
 {
 intro w'
 go_simp
 with_reducible rfl
 }
 rotate_left
 {
 (try simp only [Act.put, sT_, sZ_, sS_, i64_w, i32_w]); rfl
 }
 refine pure_ (i := 3) (N := some 101) (v := ?_) (a' := ?_) #[true, true, true, true, false, false, false, false, false, false, false, false, false, false, false, false, false, false, false, false, false, false, false] rfl rfl (any_of HT_.out (by kernel_rfl)) (fun _ _ _ h => h) (Or.inl ⟨by rfl, ?_⟩) ?_ ?_
 rotate_left
 {
 intro w'
 go_simp
 with_reducible rfl
 }
 rotate_left
 {
 (try simp only [Act.put, sT_, sZ_, sS_, i64_w, i32_w]); rfl
 }
 refine take_ (i := 4) (N := some 102) (v := ?_) (a' := ?_) #[true, true, true, true, true, false, false, false, false, false, false, false, false, false, false, false, false, false, false, false, false, false, false] rfl rfl (take_ofW HT_.out HW_.out (by kernel_rfl)) (fun _ _ _ h => h) (Or.inl ⟨by rfl, ?_⟩) hHeld ?_ ?_
 rotate_left
 {
 rintro w' ⟨s0, s1, s2, s3, s4, s5, s6, s7, s8, s9⟩
 go_simp
 with_reducible rfl
 }
 rotate_left
 {
 (try simp only [Act.put, sT_, sZ_, sS_, i64_w, i32_w]); rfl
 }
 refine pure_ (i := 5) (N := some 103) (v := ?_) (a' := ?_) #[true, true, true, true, true, true, false, false, false, false, false, false, false, false, false, false, false, false, false, false, false, false, false] rfl rfl (any_of HT_.out (by kernel_rfl)) (fun _ _ _ h => h) (Or.inl ⟨by rfl, ?_⟩) ?_ ?_
 rotate_left
 {
 intro w'
 go_simp
 with_reducible rfl
 }
 rotate_left
 {
 (try simp only [Act.put, sT_, sZ_, sS_, i64_w, i32_w]); rfl
 }
 refine pure_ (i := 6) (N := some 104) (v := ?_) (a' := ?_) #[true, true, true, true, true, true, true, false, false, false, false, false, false, false, false, false, false, false, false, false, false, false, false] rfl rfl (any_of HT_.out (by kernel_rfl)) (fun _ _ _ h => h) (Or.inl ⟨by rfl, ?_⟩) ?_ ?_
 rotate_left
 {
 intro w'
 go_simp
 with_reducible rfl
 }
 rotate_left
 {
 (try simp only [Act.put, sT_, sZ_, sS_, i64_w, i32_w]); rfl
 }
 refine pure_ (i := 7) (N := some 105) (v := ?_) (a' := ?_) #[true, true, true, true, true, true, true, true, false, false, false, false, false, false, false, false, false, false, false, false, false, false, false] rfl rfl (any_of HT_.out (by kernel_rfl)) (fun _ _ _ h => h) (Or.inl ⟨by rfl, ?_⟩) ?_ ?_
 rotate_left
 {
 intro w'
 go_simp
 with_reducible rfl
 }
 rotate_left
 {
 (try simp only [Act.put, sT_, sZ_, sS_, i64_w, i32_w]); rfl
 }
 refine pure_ (i := 8) (N := some 106) (v := ?_) (a' := ?_) #[true, true, true, true, true, true, true, true, true, false, false, false, false, false, false, false, false, false, false, false, false, false, false] rfl rfl (any_of HT_.out (by kernel_rfl)) (fun _ _ _ h => h) (Or.inl ⟨by rfl, ?_⟩) ?_ ?_
 rotate_left
 {
 intro w'
 go_simp
 with_reducible rfl
 }
 rotate_left
 {
 (try simp only [Act.put, sT_, sZ_, sS_, i64_w, i32_w]); rfl
 }
 refine pure_ (i := 9) (N := some 107) (v := ?_) (a' := ?_) #[true, true, true, true, true, true, true, true, true, true, false, false, false, false, false, false, false, false, false, false, false, false, false] rfl rfl (any_of HT_.out (by kernel_rfl)) (fun _ _ _ h => h) (Or.inl ⟨by rfl, ?_⟩) ?_ ?_
 rotate_left
 {
 intro w'
 go_simp
 with_reducible rfl
 }
 rotate_left
 {
 (try simp only [Act.put, sT_, sZ_, sS_, i64_w, i32_w]); rfl
 }
 refine pure_ (i := 10) (N := some 108) (v := ?_) (a' := ?_) #[true, true, true, true, true, true, true, true, true, true, true, false, false, false, false, false, false, false, false, false, false, false, false] rfl rfl (any_of HT_.out (by kernel_rfl)) (fun _ _ _ h => h) (Or.inl ⟨by rfl, ?_⟩) ?_ ?_
 rotate_left
 {
 intro w'
 go_simp
 with_reducible rfl
 }
 rotate_left
 {
 (try simp only [Act.put, sT_, sZ_, sS_, i64_w, i32_w]); rfl
 }
 refine take_ (i := 11) (N := some 109) (v := ?_) (a' := ?_) #[true, true, true, true, true, true, true, true, true, true, true, true, false, false, false, false, false, false, false, false, false, false, false] rfl rfl (take_ofW HT_.out HW_.out (by kernel_rfl)) (fun _ _ _ h => h) (Or.inl ⟨by rfl, ?_⟩) hHeld ?_ ?_
 rotate_left
 {
 rintro w' ⟨s0, s1, s2, s3, s4, s5, s6, s7, s8, s9⟩
 go_simp
 with_reducible rfl
 }
 rotate_left
 {
 (try simp only [Act.put, sT_, sZ_, sS_, i64_w, i32_w]); rfl
 }
 refine pure_ (i := 12) (N := some 110) (v := ?_) (a' := ?_) #[true, true, true, true, true, true, true, true, true, true, true, true, true, false, false, false, false, false, false, false, false, false, false] rfl rfl (any_of HT_.out (by kernel_rfl)) (fun _ _ _ h => h) (Or.inl ⟨by rfl, ?_⟩) ?_ ?_
 rotate_left
 {
 intro w'
 go_simp
 with_reducible rfl
 }
 rotate_left
 {
 (try simp only [Act.put, sT_, sZ_, sS_, i64_w, i32_w]); rfl
 }
 refine pure_ (i := 13) (N := some 111) (v := ?_) (a' := ?_) #[true, true, true, true, true, true, true, true, true, true, true, true, true, true, false, false, false, false, false, false, false, false, false] rfl rfl (any_of HT_.out (by kernel_rfl)) (fun _ _ _ h => h) (Or.inl ⟨by rfl, ?_⟩) ?_ ?_
 rotate_left
 {
 intro w'
 go_simp
 with_reducible rfl
 }
 rotate_left
 {
 (try simp only [Act.put, sT_, sZ_, sS_, i64_w, i32_w]); rfl
 }
 refine take_ (i := 14) (N := some 112) (v := ?_) (a' := ?_) #[true, true, true, true, true, true, true, true, true, true, true, true, true, true, true, false, false, false, false, false, false, false, false] rfl rfl (take_ofW HT_.out HW_.out (by kernel_rfl)) (fun _ _ _ h => h) (Or.inl ⟨by rfl, ?_⟩) hHeld ?_ ?_
 rotate_left
 {
 rintro w' ⟨s0, s1, s2, s3, s4, s5, s6, s7, s8, s9⟩
 go_simp
 with_reducible rfl
 }
 rotate_left
 {
 (try simp only [Act.put, sT_, sZ_, sS_, i64_w, i32_w]); rfl
 }
 refine pure_ (i := 15) (N := some 113) (v := ?_) (a' := ?_) #[true, true, true, true, true, true, true, true, true, true, true, true, true, true, true, true, false, false, false, false, false, false, false] rfl rfl (any_of HT_.out (by kernel_rfl)) (fun _ _ _ h => h) (Or.inl ⟨by rfl, ?_⟩) ?_ ?_
 rotate_left
 {
 intro w'
 go_simp
 with_reducible rfl
 }
 rotate_left
 {
 (try simp only [Act.put, sT_, sZ_, sS_, i64_w, i32_w]); rfl
 }
 refine pure_ (i := 16) (N := some 114) (v := ?_) (a' := ?_) #[true, true, true, true, true, true, true, true, true, true, true, true, true, true, true, true, true, false, false, false, false, false, false] rfl rfl (any_of HT_.out (by kernel_rfl)) (fun _ _ _ h => h) (Or.inl ⟨by rfl, ?_⟩) ?_ ?_
 rotate_left
 {
 intro w'
 go_simp
 with_reducible rfl
 }
 rotate_left
 {
 (try simp only [Act.put, sT_, sZ_, sS_, i64_w, i32_w]); rfl
 }
 refine take_ (i := 17) (N := some 115) (v := ?_) (a' := ?_) #[true, true, true, true, true, true, true, true, true, true, true, true, true, true, true, true, true, true, false, false, false, false, false] rfl rfl (take_ofW HT_.out HW_.out (by kernel_rfl)) (fun _ _ _ h => h) (Or.inl ⟨by rfl, ?_⟩) hHeld ?_ ?_
 rotate_left
 {
 rintro w' ⟨s0, s1, s2, s3, s4, s5, s6, s7, s8, s9⟩
 go_simp
 with_reducible rfl
 }
 rotate_left
 {
 (try simp only [Act.put, sT_, sZ_, sS_, i64_w, i32_w]); rfl
 }
 refine pure_ (i := 18) (N := some 116) (v := ?_) (a' := ?_) #[true, true, true, true, true, true, true, true, true, true, true, true, true, true, true, true, true, true, true, false, false, false, false] rfl rfl (any_of HT_.out (by kernel_rfl)) (fun _ _ _ h => h) (Or.inl ⟨by rfl, ?_⟩) ?_ ?_
 rotate_left
 {
 intro w'
 go_simp
 with_reducible rfl
 }
 rotate_left
 {
 (try simp only [Act.put, sT_, sZ_, sS_, i64_w, i32_w]); rfl
 }
 refine take_ (i := 19) (N := some 117) (v := ?_) (a' := ?_) #[true, true, true, true, true, true, true, true, true, true, true, true, true, true, true, true, true, true, true, true, false, false, false] rfl rfl (take_ofW HT_.out HW_.out (by kernel_rfl)) (fun _ _ _ h => h) (Or.inl ⟨by rfl, ?_⟩) hHeld ?_ ?_
 rotate_left
 {
 rintro w' ⟨s0, s1, s2, s3, s4, s5, s6, s7, s8, s9⟩
 go_simp
 with_reducible rfl
 }
 rotate_left
 {
 (try simp only [Act.put, sT_, sZ_, sS_, i64_w, i32_w]); rfl
 }
 refine one_ (i := 20) (N := some 118) #[true, true, true, true, true, true, true, true, true, true, true, true, true, true, true, true, true, true, true, true, true, false, false] rfl rfl (one_of HT_.out (by kernel_rfl)) (by decide) (fun K hK => ?_)
 refine goes_ Try.func11 (by kernel_rfl) rfl #[.agg #[.int .u8 c.f0, .int .i64 c.f1, .int .i64 c.f2, .int .i64 c.f3], .agg #[.int .u8 d.f0, .int .i64 d.f1, .int .i64 d.f2, .int .i64 d.f3]] (by rfl) rfl rfl (by (try simp only [List.map_toArray, List.map_cons, List.map_nil]); first | done | rfl) ?_
 with_reducible refine (interlockref19_Apart.calls k2 c.f0 c.f1 c.f2 c.f3 d.f0 d.f1 d.f2 d.f3 true _ A3.out).mono ?_
 rintro e w5 ⟨rfl, hb⟩
 refine ⟨_, rfl, ?_⟩
 have RS6 := Aside0.mk (Kd.R_below RS5.out hb)
 have HL6 := Aside0.mk (below_step HL5.out hb)
 refine hK.out _ _ ⟨pw_cell_below hb hHeld.1, pw_cell_below hb hHeld.2.1, pw_cell_below hb hHeld.2.2.1, pw_cell_below hb hHeld.2.2.2.1, pw_cell_below hb hHeld.2.2.2.2.1, pw_cell_below hb hHeld.2.2.2.2.2.1, pw_cell_below hb hHeld.2.2.2.2.2.2.1, pw_cell_below hb hHeld.2.2.2.2.2.2.2.1, pw_cell_below hb hHeld.2.2.2.2.2.2.2.2.1, pw_cell_below hb hHeld.2.2.2.2.2.2.2.2.2⟩ (fun hHeld => ?_)
 clear hb RS5 HL5
 clear hK K
 refine norm_ (a' := ?_) ?_ ?_
 rotate_left
 {
 show Act.put _ (some 118) _ = _
 simp only [Act.put, sT_, sZ_, sS_, i64_w, i32_w]
 rfl
 }
 refine pure_ (i := 21) (N := some 119) (v := ?_) (a' := ?_) #[true, true, true, true, true, true, true, true, true, true, true, true, true, true, true, true, true, true, true, true, true, true, false] rfl rfl (any_of HT_.out (by kernel_rfl)) (fun _ _ _ h => h) (Or.inl ⟨by rfl, ?_⟩) ?_ ?_
 rotate_left
 {
 intro w'
 go_simp
 with_reducible rfl
 }
 rotate_left
 {
 (try simp only [Act.put, sT_, sZ_, sS_, i64_w, i32_w]); rfl
 }
 refine pure_ (i := 22) (N := some 120) (v := ?_) (a' := ?_) #[true, true, true, true, true, true, true, true, true, true, true, true, true, true, true, true, true, true, true, true, true, true, true] rfl rfl (any_of HT_.out (by kernel_rfl)) (fun _ _ _ h => h) (Or.inl ⟨by rfl, ?_⟩) ?_ ?_
 rotate_left
 {
 intro w'
 go_simp
 with_reducible rfl
 }
 rotate_left
 {
 (try simp only [Act.put, sT_, sZ_, sS_, i64_w, i32_w]); rfl
 }
 refine done_ (done_of HT_.out (by kernel_rfl)) ?_
 try go_wp2
 go_roundg k2
 case measure => have := HK1.out; have := HK2.out; omega
 case rel => exact ⟨jn + 1, z1, rfl, HZ1, HJ1, ⟨H⟩, ⟨by have := HK2.out; omega⟩, RS6, HL6⟩
 )
 }
 {
 rw [if_neg hu] at H
 have bu : decide (y < u) = false := decide_eq_false hu
 clear hz hx hi e2 e3 hy hy1 eu hz1 ezn eg hu hj
 have g1 := pw_cell_below HL4.out CF.out
 have g2 := pw_cell_below HL4.out qg
 clear qg
 go_wp2
 try go_wp2
 have RS5 := Aside0.mk (Kd.R_drew RS4.out)
 have HL5 := Aside0.mk (below_drew1 HL4.out)
 refine start_ (n := 23) (S := fun w' => w'.cell? ⟨gb322, 1, none⟩ = some (.slice (some adF) t319.length co22) ∧ w'.cell? (adF.add z.toNat) = some (.int .i64 u)) (ds := []) #[false, false, false, false, false, false, false, false, false, false, false, false, false, false, false, false, false, false, false, false, false, false, false] (by kernel_rfl) rfl rfl ⟨g1, g2⟩ (fun hHeld => ?_)
 refine with_tabW interlocklaw19_SwapMoves.tab17 interlocklaw19_SwapMoves.bits17 (fun HT_ HW_ => ?_)
 clear g1 g2
 generalize wr.drew = w4 at RS5 HL5 hHeld ⊢
 clear RS4 HL4
 refine pure_ (i := 0) (N := some 98) (v := ?_) (a' := ?_) #[true, false, false, false, false, false, false, false, false, false, false, false, false, false, false, false, false, false, false, false, false, false, false] rfl rfl (any_of HT_.out (by kernel_rfl)) (fun _ _ _ h => h) (Or.inl ⟨by rfl, ?_⟩) ?_ ?_
 rotate_left
 {
 intro w'
 go_simp
 with_reducible rfl
 }
 rotate_left
 {
 (try simp only [Act.put, sT_, sZ_, sS_, i64_w, i32_w]); rfl
 }
 refine take_ (i := 1) (N := some 99) (v := ?_) (a' := ?_) #[true, true, false, false, false, false, false, false, false, false, false, false, false, false, false, false, false, false, false, false, false, false, false] rfl rfl (take_ofW HT_.out HW_.out (by kernel_rfl)) (fun _ _ _ h => h) (Or.inl ⟨by rfl, ?_⟩) hHeld ?_ ?_
 rotate_left
 {
 rintro w' ⟨s0, s1⟩
 go_simp
 with_reducible rfl
 }
 rotate_left
 {
 (try simp only [Act.put, sT_, sZ_, sS_, i64_w, i32_w]); rfl
 }
 refine pure_ (i := 2) (N := some 100) (v := ?_) (a' := ?_) #[true, true, true, false, false, false, false, false, false, false, false, false, false, false, false, false, false, false, false, false, false, false, false] rfl rfl (any_of HT_.out (by kernel_rfl)) (fun _ _ _ h => h) (Or.inl ⟨by rfl, ?_⟩) ?_ ?_
 rotate_left
 {
 intro w'
 go_simp
 with_reducible rfl
 }
 rotate_left
 {
 (try simp only [Act.put, sT_, sZ_, sS_, i64_w, i32_w]); rfl
 }
 refine pure_ (i := 3) (N := some 101) (v := ?_) (a' := ?_) #[true, true, true, true, false, false, false, false, false, false, false, false, false, false, false, false, false, false, false, false, false, false, false] rfl rfl (any_of HT_.out (by kernel_rfl)) (fun _ _ _ h => h) (Or.inl ⟨by rfl, ?_⟩) ?_ ?_
 rotate_left
 {
 intro w'
 go_simp
 with_reducible rfl
 }
 rotate_left
 {
 (try simp only [Act.put, sT_, sZ_, sS_, i64_w, i32_w]); rfl
 }
 refine take_ (i := 4) (N := some 102) (v := ?_) (a' := ?_) #[true, true, true, true, true, false, false, false, false, false, false, false, false, false, false, false, false, false, false, false, false, false, false] rfl rfl (take_ofW HT_.out HW_.out (by kernel_rfl)) (fun _ _ _ h => h) (Or.inl ⟨by rfl, ?_⟩) hHeld ?_ ?_
 rotate_left
 {
 rintro w' ⟨s0, s1⟩
 go_simp
 with_reducible rfl
 }
 rotate_left
 {
 (try simp only [Act.put, sT_, sZ_, sS_, i64_w, i32_w]); rfl
 }
 refine pure_ (i := 5) (N := some 103) (v := ?_) (a' := ?_) #[true, true, true, true, true, true, false, false, false, false, false, false, false, false, false, false, false, false, false, false, false, false, false] rfl rfl (any_of HT_.out (by kernel_rfl)) (fun _ _ _ h => h) (Or.inl ⟨by rfl, ?_⟩) ?_ ?_
 rotate_left
 {
 intro w'
 go_simp
 with_reducible rfl
 }
 rotate_left
 {
 (try simp only [Act.put, sT_, sZ_, sS_, i64_w, i32_w]); rfl
 }
 refine pure_ (i := 6) (N := some 104) (v := ?_) (a' := ?_) #[true, true, true, true, true, true, true, false, false, false, false, false, false, false, false, false, false, false, false, false, false, false, false] rfl rfl (any_of HT_.out (by kernel_rfl)) (fun _ _ _ h => h) (Or.inl ⟨by rfl, ?_⟩) ?_ ?_
 rotate_left
 {
 intro w'
 go_simp
 with_reducible rfl
 }
 rotate_left
 {
 (try simp only [Act.put, sT_, sZ_, sS_, i64_w, i32_w]); rfl
 }
 refine pure_ (i := 7) (N := some 105) (v := ?_) (a' := ?_) #[true, true, true, true, true, true, true, true, false, false, false, false, false, false, false, false, false, false, false, false, false, false, false] rfl rfl (any_of HT_.out (by kernel_rfl)) (fun _ _ _ h => h) (Or.inl ⟨by rfl, ?_⟩) ?_ ?_
 rotate_left
 {
 intro w'
 go_simp
 with_reducible rfl
 }
 rotate_left
 {
 (try simp only [Act.put, sT_, sZ_, sS_, i64_w, i32_w]); rfl
 }
 refine pure_ (i := 8) (N := some 106) (v := undef) (a' := ?_) #[true, true, true, true, true, true, true, true, true, false, false, false, false, false, false, false, false, false, false, false, false, false, false] rfl rfl (any_of HT_.out (by kernel_rfl)) (fun _ _ _ h => h) (Or.inr ⟨by rfl, rfl⟩) ?_ ?_
 rotate_left
 {
 (try simp only [Act.put, sT_, sZ_, sS_, i64_w, i32_w]); rfl
 }
 refine pure_ (i := 9) (N := some 107) (v := undef) (a' := ?_) #[true, true, true, true, true, true, true, true, true, true, false, false, false, false, false, false, false, false, false, false, false, false, false] rfl rfl (any_of HT_.out (by kernel_rfl)) (fun _ _ _ h => h) (Or.inr ⟨by rfl, rfl⟩) ?_ ?_
 rotate_left
 {
 (try simp only [Act.put, sT_, sZ_, sS_, i64_w, i32_w]); rfl
 }
 refine pure_ (i := 10) (N := some 108) (v := undef) (a' := ?_) #[true, true, true, true, true, true, true, true, true, true, true, false, false, false, false, false, false, false, false, false, false, false, false] rfl rfl (any_of HT_.out (by kernel_rfl)) (fun _ _ _ h => h) (Or.inr ⟨by rfl, rfl⟩) ?_ ?_
 rotate_left
 {
 (try simp only [Act.put, sT_, sZ_, sS_, i64_w, i32_w]); rfl
 }
 refine take_ (i := 11) (N := some 109) (v := undef) (a' := ?_) #[true, true, true, true, true, true, true, true, true, true, true, true, false, false, false, false, false, false, false, false, false, false, false] rfl rfl (take_ofW HT_.out HW_.out (by kernel_rfl)) (fun _ _ _ h => h) (Or.inr ⟨by rfl, rfl⟩) hHeld ?_ ?_
 rotate_left
 {
 (try simp only [Act.put, sT_, sZ_, sS_, i64_w, i32_w]); rfl
 }
 refine pure_ (i := 12) (N := some 110) (v := undef) (a' := ?_) #[true, true, true, true, true, true, true, true, true, true, true, true, true, false, false, false, false, false, false, false, false, false, false] rfl rfl (any_of HT_.out (by kernel_rfl)) (fun _ _ _ h => h) (Or.inr ⟨by rfl, rfl⟩) ?_ ?_
 rotate_left
 {
 (try simp only [Act.put, sT_, sZ_, sS_, i64_w, i32_w]); rfl
 }
 refine pure_ (i := 13) (N := some 111) (v := undef) (a' := ?_) #[true, true, true, true, true, true, true, true, true, true, true, true, true, true, false, false, false, false, false, false, false, false, false] rfl rfl (any_of HT_.out (by kernel_rfl)) (fun _ _ _ h => h) (Or.inr ⟨by rfl, rfl⟩) ?_ ?_
 rotate_left
 {
 (try simp only [Act.put, sT_, sZ_, sS_, i64_w, i32_w]); rfl
 }
 refine take_ (i := 14) (N := some 112) (v := undef) (a' := ?_) #[true, true, true, true, true, true, true, true, true, true, true, true, true, true, true, false, false, false, false, false, false, false, false] rfl rfl (take_ofW HT_.out HW_.out (by kernel_rfl)) (fun _ _ _ h => h) (Or.inr ⟨by rfl, rfl⟩) hHeld ?_ ?_
 rotate_left
 {
 (try simp only [Act.put, sT_, sZ_, sS_, i64_w, i32_w]); rfl
 }
 refine pure_ (i := 15) (N := some 113) (v := undef) (a' := ?_) #[true, true, true, true, true, true, true, true, true, true, true, true, true, true, true, true, false, false, false, false, false, false, false] rfl rfl (any_of HT_.out (by kernel_rfl)) (fun _ _ _ h => h) (Or.inr ⟨by rfl, rfl⟩) ?_ ?_
 rotate_left
 {
 (try simp only [Act.put, sT_, sZ_, sS_, i64_w, i32_w]); rfl
 }
 refine pure_ (i := 16) (N := some 114) (v := undef) (a' := ?_) #[true, true, true, true, true, true, true, true, true, true, true, true, true, true, true, true, true, false, false, false, false, false, false] rfl rfl (any_of HT_.out (by kernel_rfl)) (fun _ _ _ h => h) (Or.inr ⟨by rfl, rfl⟩) ?_ ?_
 rotate_left
 {
 (try simp only [Act.put, sT_, sZ_, sS_, i64_w, i32_w]); rfl
 }
 refine take_ (i := 17) (N := some 115) (v := undef) (a' := ?_) #[true, true, true, true, true, true, true, true, true, true, true, true, true, true, true, true, true, true, false, false, false, false, false] rfl rfl (take_ofW HT_.out HW_.out (by kernel_rfl)) (fun _ _ _ h => h) (Or.inr ⟨by rfl, rfl⟩) hHeld ?_ ?_
 rotate_left
 {
 (try simp only [Act.put, sT_, sZ_, sS_, i64_w, i32_w]); rfl
 }
 refine pure_ (i := 18) (N := some 116) (v := undef) (a' := ?_) #[true, true, true, true, true, true, true, true, true, true, true, true, true, true, true, true, true, true, true, false, false, false, false] rfl rfl (any_of HT_.out (by kernel_rfl)) (fun _ _ _ h => h) (Or.inr ⟨by rfl, rfl⟩) ?_ ?_
 rotate_left
 {
 (try simp only [Act.put, sT_, sZ_, sS_, i64_w, i32_w]); rfl
 }
 refine take_ (i := 19) (N := some 117) (v := undef) (a' := ?_) #[true, true, true, true, true, true, true, true, true, true, true, true, true, true, true, true, true, true, true, true, false, false, false] rfl rfl (take_ofW HT_.out HW_.out (by kernel_rfl)) (fun _ _ _ h => h) (Or.inr ⟨by rfl, rfl⟩) hHeld ?_ ?_
 rotate_left
 {
 (try simp only [Act.put, sT_, sZ_, sS_, i64_w, i32_w]); rfl
 }
 refine one_ (i := 20) (N := some 118) #[true, true, true, true, true, true, true, true, true, true, true, true, true, true, true, true, true, true, true, true, true, false, false] rfl rfl (one_of HT_.out (by kernel_rfl)) (by decide) (fun K hK => ?_)
 refine off_ (by rfl) ?_
 refine hK.out _ _ hHeld (fun hHeld => ?_)
 clear hK K
 refine norm_ (a' := ?_) ?_ ?_
 rotate_left
 {
 show Act.put _ (some 118) _ = _
 simp only [Act.put, sT_, sZ_, sS_, i64_w, i32_w]
 rfl
 }
 refine pure_ (i := 21) (N := some 119) (v := undef) (a' := ?_) #[true, true, true, true, true, true, true, true, true, true, true, true, true, true, true, true, true, true, true, true, true, true, false] rfl rfl (any_of HT_.out (by kernel_rfl)) (fun _ _ _ h => h) (Or.inr ⟨by rfl, rfl⟩) ?_ ?_
 rotate_left
 {
 (try simp only [Act.put, sT_, sZ_, sS_, i64_w, i32_w]); rfl
 }
 refine pure_ (i := 22) (N := some 120) (v := ?_) (a' := ?_) #[true, true, true, true, true, true, true, true, true, true, true, true, true, true, true, true, true, true, true, true, true, true, true] rfl rfl (any_of HT_.out (by kernel_rfl)) (fun _ _ _ h => h) (Or.inl ⟨by rfl, ?_⟩) ?_ ?_
 rotate_left
 {
 intro w'
 go_simp
 with_reducible rfl
 }
 rotate_left
 {
 (try simp only [Act.put, sT_, sZ_, sS_, i64_w, i32_w]); rfl
 }
 refine done_ (done_of HT_.out (by kernel_rfl)) ?_
 try go_wp2
 go_roundg k2
 case measure => have := HK1.out; have := HK2.out; omega
 case rel => exact ⟨jn + 1, z1, rfl, HZ1, HJ1, ⟨H⟩, ⟨by have := HK2.out; omega⟩, RS5, HL5⟩
 }
 }
 {
 rw [if_neg hj] at H
 have bz : decide (z < x) = false := decide_eq_false (by have := HZ.out; have := HX.out; have := HJ.out; omega)
 obtain ⟨x1, hx1⟩ : ∃ q : Int, q = x + 1 := ⟨_, rfl⟩
 have hx64 : wrap64 (x + 1) = x1 := by have := HX.out; have := HLT.out; have := E3.out; unfold wrap64; omega
 have hxw : IntKind.i64.wrap (x + 1) = x1 := (i64_w _).trans hx64
 have HX1 : Aside0 (x1 = ((i + 1 : Nat) : Int)) := ⟨by have := HX.out; omega⟩
 clear hx1 hj
 go_wp2
 go_roundg k2
 case measure => have := HK1.out; have := HK2.out; omega
 case rel => exact ⟨i + 1, x1, sn3, rfl, HX1, ⟨HLT.out⟩, HN3, ⟨H⟩, ⟨by have := HK1.out; have := HK2.out; omega⟩, RS4, HL4⟩
 }
 )
 )
 }
 {
 rw [if_neg hlt] at H
 obtain ⟨t4, A4, H⟩ := Option.bind_eq_some_iff.1 H
 obtain rfl := Option.some.inj H
 have A4 := Aside0.mk A4
 have bx : decide (x < ((rd_L4 t311 (ji5)).length : Int)) = false := decide_eq_false (by have := HX.out; omega)
 clear H hlt
 go_wp2_with (first | (go_at_call 12; (with_reducible refine (interlocklaw19_known.calls k1 t4 _ A4.out).mono ?_); rintro e w4 ⟨rfl, hb⟩; have BL4 := Aside0.mk (below_step HL.out hb); clear hb))
 go_ret
 exact ⟨rfl, below_then HB.out (below_size HB.out) BL4.out⟩
 }
 )
 )
 )
 }
 {
 rw [if_neg c7] at H
 cases H
 }
 }
 {
 rw [if_neg c6] at H
 cases H
 }
 }
end Go.Proofs.Yticdodbnjlnjlaa.P
