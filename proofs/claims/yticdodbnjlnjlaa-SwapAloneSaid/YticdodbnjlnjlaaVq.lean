import Derived.StillTailTactics
import Derived.Test.YticdodbnjlnjlaaVn
namespace Go.Proofs.Yticdodbnjlnjlaa.P
open Go.RowKit Go.Proofs.YticdodbnjlnjlaaW.PrintWords Go.Proofs.YticdodbnjlnjlaaW.PrintLast Go.Proofs.YticdodbnjlnjlaaW.PrintMore
attribute [local go_sem] max2_int min2_int max_two min_two max_three min_three max_four min_four
attribute [local irreducible] Calls
set_option linter.unusedVariables false
set_option linter.unusedSimpArgs false
/-! What an instruction's numbers are. -/
def w3t : List (Int × Int × Int) := [(0,0,0),(2,1,0),(2,3,0),(2,3,3),(2,3,3),(2,3,3),(2,3,3),(2,4,0),(4,3,0),(3,0,0),(5,0,0),(3,5,0),(6,0,0),(7,0,0),(7,0,0),(7,0,0),(7,0,0),(2,8,0),(8,3,0),(2,8,3),(9,3,0),(2,9,0),(2,9,2),(9,0,0),(10,1,0),(10,0,0),(2,11,0),(11,0,0)]
def w3 (n : Int) : Int × Int × Int := w3t.getD n.toNat (0, 0, 0)
abbrev RetR (w : World) (l : List Int) (e : Ending) (w' : World) : Prop := ∃ v, e = .returned v ∧ Kd.R (Kd.int .i64) 3 w' w.heap.size (fun _ => True) v l ∧ Below w.heap.size w w'
theorem lits_reps (W : World) (base : Nat) (okp : Nat → Prop) : ∀ l : List Int, Reps ((Kd.int .i64).M W base okp) (Kd.int .i64).sz l (l.map (Value.int .i64))
  | [] => Reps.none _ _
  | x :: t => Reps.one (show Kd.M (Kd.int .i64) _ _ _ x [.int .i64 x] from rfl) (lits_reps W base okp t)
section
variable {ops : Array Oper} {o : Oper} {rest : List Oper} {a : Act} {W : World} {Q : Exit → Act → World → Prop}
theorem lit3 {w : World} {p q r : Operand} {x y z : Int} {N : Tmp} (ho : o.op = .buildSlice 23 3 #[(0, p), (1, q), (2, r)]) (hd : o.dst = some N) (hg : o.guard = none) (hp : a.eval p = .int .i64 x) (hq : a.eval q = .int .i64 y) (hr : a.eval r = .int .i64 z) (hb : Below w.heap.size w W)
    (h : ∀ v1 w1, Kd.R (Kd.int .i64) 3 w1 w.heap.size (fun _ => True) v1 [x, y, z] → Below w.heap.size w w1 → Below W.heap.size W w1 → wpList Try.prog ops Q rest (a.put o.dst v1) w1) : wpList Try.prog ops Q (o :: rest) a W := by
  have hrun : (execOp a.eval o).run Try.prog W = .ok (.value (.slice (some ⟨W.heap.size, 0, none⟩) 3 3)) (W.alloc (.cells #[.int .i64 x, .int .i64 y, .int .i64 z] 3)) := by
    unfold execOp
    simp only [ho, List.map_toArray, List.map_cons, List.map_nil, hp, hq, hr]
    go_simp
  exact Kd.R_lit (Kd.int .i64) w.heap.size 3 hg hd (xs := [x, y, z]) (inner := ([x, y, z] : List Int).map (Value.int .i64)) (ok := fun _ => True) (okp := fun _ => True) hrun (lits_reps _ _ _ _) (fun _ hk => hk) trivial hb (below_size hb) (by simp) (fun v1 w1 h1 h2 h3 _ => h v1 w1 h1 h2 ((Below.refl _ _).grown h3 (Nat.le_refl _) (fun _ h => nomatch h)))
theorem lit4 {w : World} {p q r s : Operand} {x y z u : Int} {N : Tmp} (ho : o.op = .buildSlice 23 4 #[(0, p), (1, q), (2, r), (3, s)]) (hd : o.dst = some N) (hg : o.guard = none) (hp : a.eval p = .int .i64 x) (hq : a.eval q = .int .i64 y) (hr : a.eval r = .int .i64 z) (hs : a.eval s = .int .i64 u) (hb : Below w.heap.size w W)
    (h : ∀ v1 w1, Kd.R (Kd.int .i64) 3 w1 w.heap.size (fun _ => True) v1 [x, y, z, u] → Below w.heap.size w w1 → Below W.heap.size W w1 → wpList Try.prog ops Q rest (a.put o.dst v1) w1) : wpList Try.prog ops Q (o :: rest) a W := by
  have hrun : (execOp a.eval o).run Try.prog W = .ok (.value (.slice (some ⟨W.heap.size, 0, none⟩) 4 4)) (W.alloc (.cells #[.int .i64 x, .int .i64 y, .int .i64 z, .int .i64 u] 3)) := by
    unfold execOp
    simp only [ho, List.map_toArray, List.map_cons, List.map_nil, hp, hq, hr, hs]
    go_simp
  exact Kd.R_lit (Kd.int .i64) w.heap.size 3 hg hd (xs := [x, y, z, u]) (inner := ([x, y, z, u] : List Int).map (Value.int .i64)) (ok := fun _ => True) (okp := fun _ => True) hrun (lits_reps _ _ _ _) (fun _ hk => hk) trivial hb (below_size hb) (by simp) (fun v1 w1 h1 h2 h3 _ => h v1 w1 h1 h2 ((Below.refl _ _).grown h3 (Nat.le_refl _) (fun _ h => nomatch h)))
end
set_option maxRecDepth 100000 in
set_option maxHeartbeats 4000000 in
theorem row_any (n : Int) (h0 : 0 ≤ n) (h1 : n ≤ 27) (h2 : n ≠ 12) (w : World) : Calls Try.prog 49 #[.int .u8 n] w (RetR w [(w3 n).1, (w3 n).2.1, (w3 n).2.2]) := by
  have hn : n = 0 ∨ n = 1 ∨ n = 2 ∨ n = 3 ∨ n = 4 ∨ n = 5 ∨ n = 6 ∨ n = 7 ∨ n = 8 ∨ n = 9 ∨ n = 10 ∨ n = 11 ∨ n = 13 ∨ n = 14 ∨ n = 15 ∨ n = 16 ∨ n = 17 ∨ n = 18 ∨ n = 19 ∨ n = 20 ∨ n = 21 ∨ n = 22 ∨ n = 23 ∨ n = 24 ∨ n = 25 ∨ n = 26 ∨ n = 27 := by omega
  clear h0 h1 h2
  rcases hn with rfl | rfl | rfl | rfl | rfl | rfl | rfl | rfl | rfl | rfl | rfl | rfl | rfl | rfl | rfl | rfl | rfl | rfl | rfl | rfl | rfl | rfl | rfl | rfl | rfl | rfl | rfl
  all_goals as_aux_lemma =>
    unfold w3
    conv in (w3t.getD _ _) => reduce
    go_enter Try.func49, Try.ntmps49
    go_wp2_with ((with_reducible refine lit3 (w := w) rfl rfl rfl rfl rfl rfl (Below.refl _ _) ?_); intro v1 W1 hr hb _; have HR := am hr; have HB := am hb; clear hr hb)
    go_ret
    exact ⟨_, rfl, HR.out, HB.out⟩
set_option maxRecDepth 100000 in
set_option maxHeartbeats 4000000 in
theorem numbers_any (i : S33) (w : World) : Calls Try.prog 50 #[.agg (iCells i)] w (RetR w [i.f1, i.f2, i.f3]) := by
  go_enter Try.func50, Try.ntmps50
  go_wp2_with (first | ((with_reducible refine gd 1 ?_); refine bx 1 (iCells i) 33 ?_; intro b qg W qx qb; have HX := am qx; have HB := am qb; clear qg qx qb; have y1 : W.cell? ⟨b, 1, none⟩ = some (.int .i64 i.f1) := blk_cell HX.out 1; have y2 : W.cell? ⟨b, 2, none⟩ = some (.int .i64 i.f2) := blk_cell HX.out 2; have y3 : W.cell? ⟨b, 3, none⟩ = some (.int .i64 i.f3) := blk_cell HX.out 3) | ((with_reducible refine lit3 (w := w) rfl rfl rfl rfl rfl rfl HB.out ?_); intro v1 W1 hr hb _; clear y1 y2 y3; have HR := am hr; replace HB := am hb; clear hr hb))
  go_ret
  exact ⟨_, rfl, HR.out, HB.out⟩
def manyF (P : PV) (nc : Nat) (w len : Int) : Int := if w = 2 ∨ w = 3 then 4 else if w = 4 then P.pv else if w = 5 then wrap64 (len + 1) else if w = 6 then 1 else if w = 7 then P.pl else if w = 8 then P.pa else if w = 9 then (nc : Int) else if w = 10 then P.pg else P.po
set_option maxRecDepth 100000 in
set_option maxHeartbeats 4000000 in
theorem many_any (P : PV) (code : List S33) (pc : List Int) (x len : Int) (w : World) (hP : PF w P code pc) (h0 : 2 ≤ x) (h1 : x ≤ 11) : Calls Try.prog 51 #[.agg (pCells P), .int .i64 x, .int .i64 len] w (fun e w' => e = .returned (.int .i64 (manyF P pc.length x len)) ∧ Below w.heap.size w w') := by
  obtain ⟨AC, cC, eC, _⟩ := hP.c
  obtain ⟨aT, cT, _, _, eT, _⟩ := hP.t
  clear hP
  obtain ⟨pv, pa, pl, vC, pg, po, vT⟩ := P
  have eC : vC = .slice AC pc.length cC := eC
  have eT : vT = .slice (some aT) 1 cT := eT
  subst eC eT
  have hn : x = 2 ∨ x = 3 ∨ x = 4 ∨ x = 5 ∨ x = 6 ∨ x = 7 ∨ x = 8 ∨ x = 9 ∨ x = 10 ∨ x = 11 := by omega
  clear h0 h1
  rcases hn with rfl | rfl | rfl | rfl | rfl | rfl | rfl | rfl | rfl | rfl
  all_goals as_aux_lemma =>
    go_enter Try.func51, Try.ntmps51
    go_wp2_with (((with_reducible refine gd 3 ?_); refine bx 3 (pCells ⟨pv, pa, pl, .slice AC pc.length cC, pg, po, .slice (some aT) 1 cT⟩) 26 ?_; intro b qg W qx qb; have HX := am qx; have HB := am qb; clear qg qx qb; have y0 : W.cell? ⟨b, 0, none⟩ = some (.int .i64 pv) := blk_cell HX.out 0; have y1 : W.cell? ⟨b, 1, none⟩ = some (.int .i64 pa) := blk_cell HX.out 1; have y2 : W.cell? ⟨b, 2, none⟩ = some (.int .i64 pl) := blk_cell HX.out 2; have y3 : W.cell? ⟨b, 3, none⟩ = some (.slice AC pc.length cC) := blk_cell HX.out 3; have y4 : W.cell? ⟨b, 4, none⟩ = some (.int .i64 pg) := blk_cell HX.out 4; have y5 : W.cell? ⟨b, 5, none⟩ = some (.int .i64 po) := blk_cell HX.out 5; have y6 : W.cell? ⟨b, 6, none⟩ = some (.slice (some aT) 1 cT) := blk_cell HX.out 6))
    go_ret
    exact ⟨rfl, HB.out⟩
def okN (P : PV) (nc : Nat) (len u x : Int) : Prop := 0 ≤ u ∧ u ≤ 11 ∧ (u = 0 → x = 0) ∧ (2 ≤ u → u ≠ 6 ∧ 0 ≤ x ∧ x < manyF P nc u len)
structure insOK (P : PV) (nc : Nat) (len : Int) (i : S33) : Prop where
  o0 : 0 ≤ i.f0
  o1 : i.f0 ≤ 27
  go : i.f0 ≠ 12
  n1 : okN P nc len (w3 i.f0).1 i.f1
  n2 : okN P nc len (w3 i.f0).2.1 i.f2
  n3 : okN P nc len (w3 i.f0).2.2 i.f3
theorem ok_at {P : PV} {nc : Nat} {len a b c x y z : Int} (h1 : okN P nc len a x) (h2 : okN P nc len b y) (h3 : okN P nc len c z) (k : Nat) (hk : k < 3) : okN P nc len (rd [a, b, c] k) (rd [x, y, z] k) := by
  have : k = 0 ∨ k = 1 ∨ k = 2 := by omega
  rcases this with rfl | rfl | rfl
  · exact h1
  · exact h2
  · exact h3
theorem at_nat {w : World} {v : Value} {l : List Int} (h : IS w v l) {A : Addr} {n c : Nat} (e : v = .slice (some A) n c) (k : Nat) (hk : k < l.length) : w.cell? (A.add k) = some (.int .i64 (rd l k)) := by
  obtain ⟨ad, c', e', hc⟩ := h.at (k : Int) (by omega) (by omega)
  rw [e] at e'
  injection e' with e1
  injection e1 with e1
  subst e1
  rw [Int.toNat_natCast] at hc
  exact hc
theorem insT12 : rtab .any (opsOf Try.f37 12) = (true,
  [([], []), ([], []), ([0, 1], [0, 1]), ([2], [2]), ([3], [3]), ([4], [4]), ([5], [5]), ([5], [5]),
    ([6, 7, 5], [5, 6, 7]), ([8, 5], [5, 8]), ([5], [5]), ([5], [5]), ([5], [5]), ([11, 12, 5], [5, 11, 12]),
    ([13, 5], [5, 13]), ([5], [5]), ([10, 14, 15, 5, 5], [5, 10, 14, 15]), ([9, 16, 5], [5, 9, 16]), ([5, 17], [5, 17]),
    ([18, 16], [18]), ([19], [19]), ([19], [19]), ([20, 21, 19], [19, 20, 21]), ([22, 19], [19, 22]),
    ([23, 19], [19, 23]), ([24, 19, 19], [19, 24]), ([25], [25]), ([25], [25]), ([26, 27, 25], [25, 26, 27]),
    ([28, 25], [25, 28]), ([29, 25], [25, 29]), ([25, 30, 19], [19, 25, 30]), ([19, 31], [19, 31])]) := by kernel_rfl
set_option maxHeartbeats 8000000 in
set_option maxRecDepth 100000 in
theorem ins_any (P : PV) (code : List S33) (pc : List Int) (i : S33) (len : Int) (w : World) (hP : PF w P code pc) (hi : insOK P pc.length len i) : Calls Try.prog 37 #[.agg (pCells P), .agg (iCells i), .int .i64 len] w (fun e w' => e = .returned (.int .i64 0) ∧ Below w.heap.size w w') := by
  have HP := am hP
  have HI := am hi
  have p27 := eq_false (show ¬ (27 : Int) < i.f0 by have := hi.o1; omega)
  clear hP hi
  go_enter Try.func37, Try.ntmps37
  go_upto_region 3 with (first | ((with_reducible refine gd 3 ?_); refine bx 3 (pCells P) 26 ?_; intro b3 qg W qx qb; have HX3 := am qx; have HB := am qb; clear qg qx qb) | ((with_reducible refine gd 4 ?_); refine bx 4 (iCells i) 33 ?_; intro b4 qg W qx qb; have HX4 := am qx; replace HX3 := am (blk_below HX3.out qb); replace HB := am (below_step HB.out qb); clear qg qx qb; have y0 : W.cell? ⟨b4, 0, none⟩ = some (.int .u8 i.f0) := blk_cell HX4.out 0) | (go_at_call 49; refine (row_any i.f0 HI.out.o0 HI.out.o1 HI.out.go _).mono ?_; rintro e W1 ⟨v7, rfl, hr, hb⟩; have HR7 := am (IS.of_R hr); replace HX3 := am (blk_below HX3.out hb); replace HX4 := am (blk_below HX4.out hb); replace HB := am (below_step HB.out hb); clear hr hb y0) | ((with_reducible refine gd 14 ?_); refine wpList_load_row rfl 33 (.tmp 4) rfl b4 rfl 33 (iCells i) (0, 0) _ HX4.out Try.underlying33 rfl size33 ?_) | (go_at_call 50; refine (numbers_any i _).mono ?_; rintro e W2 ⟨v8, rfl, hr, hb⟩; have HR8 := am (IS.of_R hr); replace HR7 := am (HR7.out.below hb); replace HX3 := am (blk_below HX3.out hb); replace HX4 := am (blk_below HX4.out hb); replace HB := am (below_step HB.out hb); clear hr hb))
  have HOK : Aside0 (∀ k : Nat, k < 3 → okN P pc.length len (rd [(w3 i.f0).1, (w3 i.f0).2.1, (w3 i.f0).2.2] k) (rd [i.f1, i.f2, i.f3] k)) := ⟨ok_at HI.out.n1 HI.out.n2 HI.out.n3⟩
  have HL7 : Aside0 ([(w3 i.f0).1, (w3 i.f0).2.1, (w3 i.f0).2.2].length = 3) := ⟨rfl⟩
  have HL8 : Aside0 ([i.f1, i.f2, i.f3].length = 3) := ⟨rfl⟩
  generalize [(w3 i.f0).1, (w3 i.f0).2.1, (w3 i.f0).2.2] = L7 at HOK HR7 HL7
  generalize [i.f1, i.f2, i.f3] = L8 at HOK HR8 HL8
  obtain ⟨a7, c7, e7, _⟩ := HR7.out.at 0 (Int.le_refl _) (by rw [HL7.out]; decide)
  obtain ⟨a8, c8, e8, _⟩ := HR8.out.at 0 (Int.le_refl _) (by rw [HL8.out]; decide)
  rw [HL7.out] at e7
  rw [HL8.out] at e8
  subst e7 e8
  go_wp2
  go_loopw [9] (fun v9 wr => ∃ k : Nat, k ≤ 3 ∧ v9 = .int .i64 (k : Int) ∧ Aside0 (Below W2.heap.size W2 wr)) (fun v9 _ => 3 - (intOf v9).toNat)
  case atStart => exact ⟨0, Nat.zero_le _, rfl, ⟨Below.refl _ _⟩⟩
  case round =>
    obtain ⟨k, hk, rfl, HW⟩ := hrel
    by_cases hk3 : k < 3
    · as_aux_lemma =>
        have z7 := at_nat (HR7.out.below HW.out) rfl k (by rw [HL7.out]; exact hk3)
        have z8 := at_nat (HR8.out.below HW.out) rfl k (by rw [HL8.out]; exact hk3)
        have y0 : wr.cell? ⟨b4, 0, none⟩ = some (.int .u8 i.f0) := blk_cell (blk_below HX4.out HW.out) 0
        have hz : ((rd L7 k == 0) = true ∧ (rd L8 k != 0) = false) ∨ (rd L7 k == 0) = false := by
          by_cases h : rd L7 k = 0
          · exact .inl ⟨beq_iff_eq.2 h, bne_eq_false_iff_eq.2 ((HOK.out k hk3).2.2.1 h)⟩
          · exact .inr (beq_eq_false_iff_ne.2 h)
        have q0 := eq_true (show (k : Int) < 3 by omega)
        have q1 := eq_true (show (0 : Int) ≤ (k : Int) by omega)
        have HE : Aside0 (wrap64 ((k : Int) + 1) = ((k + 1 : Nat) : Int)) := ⟨wrap64_up k (by omega)⟩
        have HK3 := am hk3
        clear hk hk3
        rcases hz with ⟨z1, z2⟩ | z1
        all_goals
          go_wp2
          go_roundw
          case rel => exact ⟨k + 1, HK3.out, by rw [HE.out], HW⟩
          case measure => have := HK3.out; rw [HE.out]; simp [intOf]; omega
    · obtain rfl : k = 3 := by omega
      clear hk hk3
      go_wp2
      go_loopw [10] (fun v10 wr => ∃ k : Nat, k ≤ 3 ∧ v10 = .int .i64 (k : Int) ∧ Aside0 (Below W2.heap.size W2 wr)) (fun v10 _ => 3 - (intOf v10).toNat)
      case atStart => exact ⟨0, Nat.zero_le _, rfl, HW⟩
      case round =>
        clear HW
        obtain ⟨k, hk, rfl, HW⟩ := hrel
        by_cases hk3 : k < 3
        · have HOKk := am (HOK.out k hk3)
          have z7 := at_nat (HR7.out.below HW.out) rfl k (by rw [HL7.out]; exact hk3)
          have q0 := eq_true (show (k : Int) < 3 by omega)
          have q1 := eq_true (show (0 : Int) ≤ (k : Int) by omega)
          have HE : Aside0 (wrap64 ((k : Int) + 1) = ((k + 1 : Nat) : Int)) := ⟨wrap64_up k (by omega)⟩
          have HZ7 := am (at_nat HR7.out rfl k (by rw [HL7.out]; exact hk3))
          have HZ8 := am (at_nat HR8.out rfl k (by rw [HL8.out]; exact hk3))
          have HK3 := am hk3
          clear hk hk3
          generalize rd L7 k = u at *
          generalize rd L8 k = x at *
          by_cases hu : u = 0 ∨ u = 1
          · as_aux_lemma =>
              rcases hu with rfl | rfl
              all_goals
                go_wp2
                go_roundw
                case rel => exact ⟨k + 1, HK3.out, by rw [HE.out], HW⟩
                case measure => have := HK3.out; rw [HE.out]; simp [intOf]; omega
          · as_aux_lemma =>
              have hz : 2 ≤ u := by have := HOKk.out.1; omega
              obtain ⟨h6, hx0, hxm⟩ := HOKk.out.2.2.2 hz
              have u0 := beq_eq_false_iff_ne.2 (show u ≠ 0 by omega)
              have u1 := beq_eq_false_iff_ne.2 (show u ≠ 1 by omega)
              have u6 := beq_eq_false_iff_ne.2 h6
              have x0 := eq_false (show ¬ x < 0 by omega)
              have x1 := eq_false (show ¬ manyF P pc.length u len ≤ x by omega)
              have HU := am (And.intro hz HOKk.out.2.1)
              clear hu hz h6 hx0 hxm
              go_wp2
              refine sa 33 (fun w' => Below wr.heap.size wr w') insT12 (below_drew (Below.refl _ _)) [] (fun HT_ hHeld => ?_)
              refine pu 0 53 HT_ ?_
              refine pu 1 54 HT_ ?_
              refine pu 2 55 HT_ ?_
              refine ta 3 56 HT_ hHeld (v := ?_) ?_ ?_; rotate_left
              · intro w' hS'; have z8 := pw_cell_below (below_step HW.out hS') HZ8.out; go_simp; with_reducible rfl
              refine pu 4 57 HT_ ?_
              refine pu 5 58 HT_ ?_
              refine pu 6 59 HT_ ?_
              refine pu 7 60 HT_ ?_
              refine pu 8 61 HT_ ?_
              refine ta 9 62 HT_ hHeld (v := ?_) ?_ ?_; rotate_left
              · intro w' hS'; have z8 := pw_cell_below (below_step HW.out hS') HZ8.out; go_simp; with_reducible rfl
              refine ta 10 63 HT_ hHeld (v := (.agg (pCells P))) ?_ ?_
              · exact fun w' hS' => exec_load_row 26 (.tmp 3) rfl b3 rfl 26 (pCells P) (0, 0) _ (blk_below HX3.out (below_step HW.out hS')) Try.underlying26 rfl size26
              refine pu 11 64 HT_ ?_
              refine pu 12 65 HT_ ?_
              refine pu 13 66 HT_ ?_
              refine ta 14 67 HT_ hHeld (v := ?_) ?_ ?_; rotate_left
              · intro w' hS'; have z7 := pw_cell_below (below_step HW.out hS') HZ7.out; go_simp; with_reducible rfl
              refine pu 15 68 HT_ ?_
              refine on 16 (some 69) HT_ (fun K hK => ?_)
              refine cl 51 #[.agg (pCells P), .int .i64 u, .int .i64 len] ?_
              refine (many_any P code pc u len _ (HP.out.below (below_step (below_step HB.out HW.out) hHeld)) HU.out.1 HU.out.2).mono ?_
              rintro e wx ⟨rfl, hb⟩
              have hbx := below_step hHeld hb
              refine ⟨_, rfl, ?_⟩
              refine hK.out _ _ (hbx) (fun hHeld => ?_)
              clear hK K
              refine nm 69 ?_
              refine pu 17 70 HT_ ?_
              refine pu 18 71 HT_ ?_
              refine pu 19 72 HT_ ?_
              refine pu 20 73 HT_ ?_
              refine pu 21 74 HT_ ?_
              refine pu 22 75 HT_ ?_
              refine ta 23 76 HT_ hHeld (v := ?_) ?_ ?_; rotate_left
              · intro w' hS'; have z7 := pw_cell_below (below_step HW.out hS') HZ7.out; go_simp; with_reducible rfl
              refine pu 24 77 HT_ ?_
              refine pu 25 78 HT_ ?_
              refine pz 26 79 HT_ ?_
              refine pz 27 80 HT_ ?_
              refine pz 28 81 HT_ ?_
              refine tz 29 82 HT_ hHeld ?_
              refine pz 30 83 HT_ ?_
              refine pu 31 84 HT_ ?_
              refine pu 32 85 HT_ ?_
              refine dn HT_ ?_
              go_wp2
              go_roundw
              case rel => exact ⟨k + 1, HK3.out, by rw [HE.out], ⟨below_step HW.out hHeld⟩⟩
              case measure => have := HK3.out; rw [HE.out]; simp [intOf]; omega
        · as_aux_lemma =>
            obtain rfl : k = 3 := by omega
            clear hk hk3
            go_wp2
            go_ret
            exact ⟨rfl, below_step HB.out HW.out⟩
structure SOK (P : PV) (code : List S33) (pc : List Int) : Prop where
  lim : Lim P pc.length
  c : ∀ k, k < pc.length → 1 ≤ rd pc k ∧ rd pc k ≤ 3
  len : code.length ≤ 60
  ins : ∀ k, k < code.length → insOK P pc.length code.length (code.getD k z33)
theorem soundT24 : rtab .any (opsOf Try.f18 24) = (true,
  [([], []), ([], []), ([1], [1]), ([], []), ([2, 3], [2, 3]), ([4], [4]), ([], []), ([5, 6], [5, 6]), ([7], [7]),
    ([], []), ([9], [9]), ([], []), ([10, 11], [10, 11]), ([12], [12]), ([13], [13]), ([0, 8, 14], [0, 8, 14]),
    ([15, 15, 0, 1, 2, 3, 4, 5, 6, 7, 8, 9, 10, 11, 12, 13, 14, 15], [15])]) := by kernel_rfl
theorem four {a b c d : Int} (ha : 0 ≤ a ∧ a ≤ 4) (hb : 0 ≤ b ∧ b ≤ 4) (hc : 0 ≤ c ∧ c ≤ 4) (hd : 0 ≤ d ∧ d ≤ 4) (k : Nat) (hk : k < 4) : 0 ≤ rd [a, b, c, d] k ∧ rd [a, b, c, d] k ≤ 4 := by
  have : k = 0 ∨ k = 1 ∨ k = 2 ∨ k = 3 := by omega
  rcases this with rfl | rfl | rfl | rfl
  · exact ha
  · exact hb
  · exact hc
  · exact hd
set_option maxHeartbeats 8000000 in
set_option maxRecDepth 100000 in
theorem sound_any (P : PV) (code : List S33) (pc : List Int) (w : World) (hP : PF w P code pc) (hS : SOK P code pc) : Calls Try.prog 18 #[.agg (pCells P)] w (fun e w' => e = .returned (.int .i64 0) ∧ Below w.heap.size w w') := by
  obtain ⟨AC, cC, eC, _⟩ := hP.c
  obtain ⟨aT, cT, AI, cI, eT, _, hT1, hT2, hT3⟩ := hP.t
  obtain ⟨pv, pa, pl, vC, pg, po, vT⟩ := P
  have eC : vC = .slice AC pc.length cC := eC
  have eT : vT = .slice (some aT) 1 cT := eT
  subst eC eT
  have HP := am hP
  have HS := am hS
  have HT0 := am (And.intro hT1 hT3)
  have p0 := eq_false (show ¬ pv < 0 by have := hS.lim.v0; dsimp only at this; omega)
  have p1 := eq_false (show ¬ 8 < pv by have := hS.lim.v1; dsimp only at this; omega)
  have p2 := eq_false (show ¬ (4 : Int) < (pc.length : Int) by have := hS.lim.c; omega)
  have HL4 : Aside0 (∀ k : Nat, k < 4 → 0 ≤ rd [pa, pl, pg, po] k ∧ rd [pa, pl, pg, po] k ≤ 4) := ⟨four ⟨hS.lim.a0, hS.lim.a1⟩ ⟨hS.lim.l0, hS.lim.l1⟩ ⟨hS.lim.g0, hS.lim.g1⟩ ⟨hS.lim.o0, hS.lim.o1⟩⟩
  clear hP hS hT1 hT2 hT3
  go_enter Try.func18, Try.ntmps18
  go_upto_region 3 with (first | ((with_reducible refine gd 1 ?_); refine bx 1 (pCells ⟨pv, pa, pl, .slice AC pc.length cC, pg, po, .slice (some aT) 1 cT⟩) 26 ?_; intro b1 qg W qx qb; have HX := am qx; have HB := am qb; clear qg qx qb; have y0 : W.cell? ⟨b1, 0, none⟩ = some (.int .i64 pv) := blk_cell HX.out 0; have y1 : W.cell? ⟨b1, 1, none⟩ = some (.int .i64 pa) := blk_cell HX.out 1; have y2 : W.cell? ⟨b1, 2, none⟩ = some (.int .i64 pl) := blk_cell HX.out 2; have y3 : W.cell? ⟨b1, 3, none⟩ = some (.slice AC pc.length cC) := blk_cell HX.out 3; have y4 : W.cell? ⟨b1, 4, none⟩ = some (.int .i64 pg) := blk_cell HX.out 4; have y5 : W.cell? ⟨b1, 5, none⟩ = some (.int .i64 po) := blk_cell HX.out 5; have y6 : W.cell? ⟨b1, 6, none⟩ = some (.slice (some aT) 1 cT) := blk_cell HX.out 6) | ((with_reducible refine lit4 (w := w) rfl rfl rfl rfl rfl rfl rfl HB.out ?_); intro v4 W2 hr hb hb2; have HR4 := am (IS.of_R hr); replace HX := am (blk_below HX.out hb2); replace HB := am hb; clear hr hb hb2 y0 y1 y2 y3 y4 y5 y6))
  have HLL : Aside0 ([pa, pl, pg, po].length = 4) := ⟨rfl⟩
  generalize [pa, pl, pg, po] = L4 at HL4 HR4 HLL
  obtain ⟨a4, c4, e4, _⟩ := HR4.out.at 0 (Int.le_refl _) (by rw [HLL.out]; decide)
  rw [HLL.out] at e4
  subst e4
  have HTH := am (And.intro (pw_cell_below HB.out HT0.out.1) (Kd.C_below HT0.out.2 HB.out))
  have HCC := am ((HP.out.below HB.out).c)
  go_wp2
  go_loopw [3, 5] (fun v3 v5 wr => ∃ k : Nat, k ≤ 4 ∧ v3 = .bool false ∧ v5 = .int .i64 (k : Int) ∧ Aside0 (Below W2.heap.size W2 wr)) (fun _ v5 _ => 4 - (intOf v5).toNat)
  case atStart => exact ⟨0, Nat.zero_le _, rfl, rfl, ⟨Below.refl _ _⟩⟩
  case round =>
    obtain ⟨k, hk, rfl, rfl, HW⟩ := hrel
    by_cases hk3 : k < 4
    · as_aux_lemma =>
        have z4 := at_nat (HR4.out.below HW.out) rfl k (by rw [HLL.out]; exact hk3)
        obtain ⟨h1, h2⟩ := HL4.out k hk3
        have q0 := eq_true (show (k : Int) < 4 by omega)
        have q1 := eq_true (show (0 : Int) ≤ (k : Int) by omega)
        have q2 := eq_false (show ¬ rd L4 k < 0 by omega)
        have q3 := eq_false (show ¬ 4 < rd L4 k by omega)
        have HE : Aside0 (wrap64 ((k : Int) + 1) = ((k + 1 : Nat) : Int)) := ⟨wrap64_up k (by omega)⟩
        have HK3 := am hk3
        clear hk hk3 h1 h2
        go_wp2
        go_roundw
        case rel => exact ⟨k + 1, HK3.out, rfl, by rw [HE.out], HW⟩
        case measure => have := HK3.out; rw [HE.out]; simp [intOf]; omega
    · obtain rfl : k = 4 := by omega
      clear hk hk3
      go_wp2
      go_loopw [3, 6] (fun v3 v6 wr => ∃ i : Int, (i = 0 ∨ i = 1) ∧ v3 = .bool false ∧ v6 = .int .i64 i ∧ Aside0 (Below W2.heap.size W2 wr)) (fun _ v6 _ => 1 - (intOf v6).toNat)
      case atStart => exact ⟨0, .inl rfl, rfl, rfl, HW⟩
      case round =>
        clear HW
        obtain ⟨i, hi, rfl, rfl, HW⟩ := hrel
        have y3 : wr.cell? ⟨b1, 3, none⟩ = some (.slice AC pc.length cC) := blk_cell (blk_below HX.out HW.out) 3
        have y6 : wr.cell? ⟨b1, 6, none⟩ = some (.slice (some aT) 1 cT) := blk_cell (blk_below HX.out HW.out) 6
        have yT := pw_cell_below HW.out HTH.out.1
        rcases hi with rfl | rfl
        · as_aux_lemma =>
            have q0 := eq_false (show ¬ (60 : Int) < (code.length : Int) by have := HS.out.len; omega)
            go_wp2
            go_roundw
            case rel => exact ⟨1, .inr rfl, rfl, rfl, HW⟩
            case measure => decide
        · as_aux_lemma =>
          go_wp2
          go_loopw [7] (fun v7 wr => ∃ k : Nat, k ≤ pc.length ∧ v7 = .int .i64 (k : Int) ∧ Aside0 (Below W2.heap.size W2 wr)) (fun v7 _ => pc.length - (intOf v7).toNat)
          case atStart => exact ⟨0, Nat.zero_le _, rfl, HW⟩
          case round =>
            clear HW y3 y6 yT
            obtain ⟨k, hk, rfl, HW⟩ := hrel
            have y3 : wr.cell? ⟨b1, 3, none⟩ = some (.slice AC pc.length cC) := blk_cell (blk_below HX.out HW.out) 3
            by_cases hk3 : k < pc.length
            · as_aux_lemma =>
                obtain ⟨aC, cc', e', hc⟩ := (HCC.out.below HW.out).at (k : Int) (by omega) (by omega)
                injection e' with e1 e2 e3
                subst e1 e3
                clear e2
                rw [Int.toNat_natCast] at hc
                obtain ⟨h1, h2⟩ := HS.out.c k hk3
                have q0 := eq_true (show (k : Int) < (pc.length : Int) by omega)
                have q1 := eq_true (show (0 : Int) ≤ (k : Int) by omega)
                have q2 := eq_false (show ¬ rd pc k < 1 by omega)
                have q3 := eq_false (show ¬ 3 < rd pc k by omega)
                have HE : Aside0 (wrap64 ((k : Int) + 1) = ((k + 1 : Nat) : Int)) := ⟨wrap64_up k (by have := HS.out.lim.c; omega)⟩
                have HK3 := am hk3
                clear hk hk3 h1 h2
                go_wp2
                go_roundw
                case rel => exact ⟨k + 1, HK3.out, by rw [HE.out], HW⟩
                case measure => have := HK3.out; rw [HE.out]; simp [intOf]; omega
            · as_aux_lemma =>
              have HKE : Aside0 (k = pc.length) := ⟨by omega⟩
              have q0 := eq_false (show ¬ (k : Int) < (pc.length : Int) by omega)
              clear hk hk3
              go_wp2
              go_loopw [8, 9, 10] (fun v8 v9 v10 wr => ∃ i : Int, (i = 0 ∨ i = 1) ∧ v8 = .int .i64 i ∧ Aside0 (Below W2.heap.size W2 wr)) (fun v8 _ _ _ => 1 - (intOf v8).toNat)
              case atStart => exact ⟨0, .inl rfl, rfl, HW⟩
              case round =>
                clear HW y3
                obtain ⟨i, hi, rfl, HW⟩ := hrel
                have y6 : wr.cell? ⟨b1, 6, none⟩ = some (.slice (some aT) 1 cT) := blk_cell (blk_below HX.out HW.out) 6
                rcases hi with rfl | rfl
                · as_aux_lemma =>
                    go_wp2
                    go_loopw [9, 10] (fun v9 v10 wr => ∃ k : Nat, k ≤ code.length ∧ v9 = .int .i64 (k : Int) ∧ Aside0 (Below W2.heap.size W2 wr)) (fun v9 _ _ => code.length - (intOf v9).toNat)
                    case atStart => exact ⟨0, Nat.zero_le _, rfl, HW⟩
                    case round =>
                      clear HW y6
                      obtain ⟨k, hk, rfl, HW⟩ := hrel
                      have y6 : wr.cell? ⟨b1, 6, none⟩ = some (.slice (some aT) 1 cT) := blk_cell (blk_below HX.out HW.out) 6
                      have yT := pw_cell_below HW.out HTH.out.1
                      by_cases hk3 : k < code.length
                      · as_aux_lemma =>
                          obtain ⟨ai, rfl, i0, i1, i2, i3⟩ := at_T33 HTH.out.2 (k : Int) (by omega) (by omega)
                          simp only [Int.toNat_natCast] at i0 i1 i2 i3
                          have HII := am (And.intro i0 (And.intro i1 (And.intro i2 i3)))
                          have HIK : Aside0 (insOK ⟨pv, pa, pl, .slice AC pc.length cC, pg, po, .slice (some aT) 1 cT⟩ pc.length (code.length : Int) (rd_T33 code (k : Int))) := ⟨by unfold rd_T33; rw [Int.toNat_natCast]; exact HS.out.ins k hk3⟩
                          have q0 := eq_true (show (k : Int) < (code.length : Int) by omega)
                          have q1 := eq_true (show (0 : Int) ≤ (k : Int) by omega)
                          have HE : Aside0 (wrap64 ((k : Int) + 1) = ((k + 1 : Nat) : Int)) := ⟨wrap64_up k (by have := HS.out.len; omega)⟩
                          have HK3 := am hk3
                          clear hk hk3 i0 i1 i2 i3
                          go_wp2
                          refine sa 17 (fun w' => Below wr.heap.size wr w') soundT24 (below_drew (Below.refl _ _)) [] (fun HT_ hHeld => ?_)
                          refine ta 0 121 HT_ hHeld (v := (.agg (pCells ⟨pv, pa, pl, .slice AC pc.length cC, pg, po, .slice (some aT) 1 cT⟩))) ?_ ?_
                          · exact fun w' hS' => exec_load_row 26 (.tmp 1) rfl b1 rfl 26 (pCells ⟨pv, pa, pl, .slice AC pc.length cC, pg, po, .slice (some aT) 1 cT⟩) (0, 0) _ (blk_below HX.out (below_step HW.out hS')) Try.underlying26 rfl size26
                          refine pu 1 122 HT_ ?_
                          refine ta 2 123 HT_ hHeld (v := ?_) ?_ ?_; rotate_left
                          · intro w' hS'; have y6 : w'.cell? ⟨b1, 6, none⟩ = some (.slice (some aT) 1 cT) := blk_cell (blk_below HX.out (below_step HW.out hS')) 6; go_simp; with_reducible rfl
                          refine pu 3 124 HT_ ?_
                          refine pu 4 125 HT_ ?_
                          refine ta 5 126 HT_ hHeld (v := ?_) ?_ ?_; rotate_left
                          · intro w' hS'; have yT := pw_cell_below (below_step HW.out hS') HTH.out.1; go_simp; with_reducible rfl
                          refine pu 6 127 HT_ ?_
                          refine pu 7 128 HT_ ?_
                          refine ta 8 129 HT_ hHeld (v := ?_) ?_ ?_; rotate_left
                          · intro w' hS'; have i0 := pw_cell_below (below_step HW.out hS') HII.out.1; have i1 := pw_cell_below (below_step HW.out hS') HII.out.2.1; have i2 := pw_cell_below (below_step HW.out hS') HII.out.2.2.1; have i3 := pw_cell_below (below_step HW.out hS') HII.out.2.2.2; go_simp; with_reducible rfl
                          refine pu 9 130 HT_ ?_
                          refine ta 10 131 HT_ hHeld (v := ?_) ?_ ?_; rotate_left
                          · intro w' hS'; have y6 : w'.cell? ⟨b1, 6, none⟩ = some (.slice (some aT) 1 cT) := blk_cell (blk_below HX.out (below_step HW.out hS')) 6; go_simp; with_reducible rfl
                          refine pu 11 132 HT_ ?_
                          refine pu 12 133 HT_ ?_
                          refine ta 13 134 HT_ hHeld (v := ?_) ?_ ?_; rotate_left
                          · intro w' hS'; have yT := pw_cell_below (below_step HW.out hS') HTH.out.1; go_simp; with_reducible rfl
                          refine pu 14 135 HT_ ?_
                          refine on 15 (some 136) HT_ (fun K hK => ?_)
                          refine cl 37 #[.agg (pCells ⟨pv, pa, pl, .slice AC pc.length cC, pg, po, .slice (some aT) 1 cT⟩), .agg (iCells (rd_T33 code (k : Int))), .int .i64 (code.length : Int)] ?_
                          refine (ins_any ⟨pv, pa, pl, .slice AC pc.length cC, pg, po, .slice (some aT) 1 cT⟩ code pc (rd_T33 code (k : Int)) (code.length : Int) _ (HP.out.below (below_step (below_step HB.out HW.out) hHeld)) HIK.out).mono ?_
                          rintro e wx ⟨rfl, hb⟩
                          have hbx := below_step hHeld hb
                          refine ⟨_, rfl, ?_⟩
                          refine hK.out _ _ (hbx) (fun hHeld => ?_)
                          clear hK K
                          refine nm 136 ?_
                          refine pu 16 10 HT_ ?_
                          refine dn HT_ ?_
                          go_wp2
                          go_roundw
                          case rel => exact ⟨k + 1, HK3.out, by rw [HE.out], ⟨below_step HW.out hHeld⟩⟩
                          case measure => have := HK3.out; rw [HE.out]; simp [intOf]; omega
                      · as_aux_lemma =>
                          have q0 := eq_false (show ¬ (k : Int) < (code.length : Int) by omega)
                          clear hk hk3
                          go_wp2
                          go_roundw
                          case rel => exact ⟨1, .inr rfl, rfl, HW⟩
                          case measure => decide
                · as_aux_lemma =>
                    go_wp2
                    go_ret
                    exact ⟨rfl, below_step HB.out HW.out⟩
end Go.Proofs.Yticdodbnjlnjlaa.P
