import Derived.StillTailTactics
import Derived.Test.YticdodbnjlnjlaaVl
namespace Go.Proofs.Yticdodbnjlnjlaa.P
open Go.RowKit Go.Proofs.YticdodbnjlnjlaaW.PrintWords Go.Proofs.YticdodbnjlnjlaaW.PrintLast Go.Proofs.YticdodbnjlnjlaaW.PrintMore
attribute [local go_sem] max2_int min2_int max_two min_two max_three min_three max_four min_four
attribute [local irreducible] Calls
set_option linter.unusedVariables false
set_option linter.unusedSimpArgs false
set_option maxHeartbeats 16000000 in
set_option maxRecDepth 100000 in
theorem conflict_any (x y : S75) (w : World) (hx : x.f0 = 0) (hy : y.f0 = 0) : Calls Try.prog 43 #[.agg (sE x), .agg (sE y)] w (RetB w false) := by
  obtain ⟨x0, x1, x2, x3, x4, x5⟩ := x
  obtain ⟨y0, y1, y2, y3, y4, y5⟩ := y
  have hx : x0 = 0 := hx
  have hy : y0 = 0 := hy
  subst hx hy
  have hA : (x2 == 7) = true ∨ (x2 == 7) = false := by cases (x2 == 7) <;> simp
  have hB : (x2 == 8) = true ∨ (x2 == 8) = false := by cases (x2 == 8) <;> simp
  have hD : (y2 == 7) = true ∨ (y2 == 7) = false := by cases (y2 == 7) <;> simp
  have hE : (y2 == 8) = true ∨ (y2 == 8) = false := by cases (y2 == 8) <;> simp
  have hF : (x3 == y3) = true ∨ (x3 == y3) = false := by cases (x3 == y3) <;> simp
  rcases hF with hF | hF <;> rcases hA with hA | hA <;> rcases hB with hB | hB <;> rcases hD with hD | hD <;> rcases hE with hE | hE
  all_goals as_aux_lemma =>
    go_enter Try.func43, Try.ntmps43
    go_wp2
    go_ret
    exact ⟨rfl, below_alloc (below_alloc (Below.refl _ _) _) _⟩
theorem findT19 : rtab .any (opsOf Try.f20 19) = (true,
  [([], []), ([], []), ([0, 1], [0, 1]), ([2], [2]), ([3], [3]), ([], []), ([4, 5], [4, 5]), ([6], [6]), ([7], [7]),
    ([7], [7]), ([8, 9, 7], [7, 8, 9]), ([10, 7], [7, 10]), ([7], [7]), ([7], [7]), ([12, 13, 7], [7, 12, 13]),
    ([14, 7], [7, 14]), ([11, 15, 7, 7], [7, 11, 15]), ([7, 16], [7, 16])]) := by kernel_rfl
set_option maxHeartbeats 16000000 in
set_option maxRecDepth 100000 in
theorem find_any (P : PV) (A : Option Addr) (m c : Nat) (evs : List S75) (w : World) (hC : Kd.C k75 w A m evs) (h0 : ∀ e ∈ evs, e.f0 = 0) (hm : m ≤ 200) (hPO : (pCells P).all (·.oneCell') = true) :
    Calls Try.prog 20 #[.agg (pCells P), .slice A m c] w (fun e w' => e = .returned (.slice none 0 0) ∧ Below w.heap.size w w') := by
  have HC := am hC
  have H0 := am h0
  have HM := am hm
  have HPO := am hPO
  have HLEN := am hC.1
  have pm := eq_false (show ¬ (2000 : Int) < (m : Int) by omega)
  clear hC h0 hm hPO
  go_enter Try.func20, Try.ntmps20
  go_upto_region 2 with ((with_reducible refine gd 2 ?_); refine bx 2 (pCells P) 26 ?_; intro b2 qg W qx qb; have HX := am qx; have HB := am qb; clear qg qx qb)
  go_wp2
  go_loopw [6] (fun v6 wr => ∃ i : Nat, i ≤ m ∧ v6 = .int .i64 (i : Int) ∧ Aside0 (wr.heap[b2]? = some (.cells (pCells P) 26 (0, 0)) ∧ Below w.heap.size w wr)) (fun v6 _ => m - (intOf v6).toNat)
  case atStart => exact ⟨0, Nat.zero_le _, rfl, ⟨HX.out, HB.out⟩⟩
  case round =>
    clear HX HB
    obtain ⟨i, hi, rfl, HXB⟩ := hrel
    by_cases hlt : i < m
    · as_aux_lemma =>
        obtain ⟨ad, rfl, y0, _⟩ := at_T75 HC.out (i : Int) (by omega) (by omega)
        simp only [Int.toNat_natCast] at y0
        have y0 := pw_cell_below HXB.out.2 y0
        rw [thr0 H0.out (i : Int) (by omega) (by have := HLEN.out; omega)] at y0
        have p0 := eq_true (show (0 : Int) ≤ (i : Int) by omega)
        have p1 := eq_true (show (i : Int) < (m : Int) by omega)
        have HE1 : Aside0 (wrap64 ((i : Int) + 1) = ((i + 1 : Nat) : Int)) := ⟨wrap64_up i (by have := HM.out; omega)⟩
        have HLT := am hlt
        clear hlt hi
        go_wp2
        go_roundw
        case rel => exact ⟨i + 1, HLT.out, by rw [HE1.out], HXB⟩
        case measure => have := HLT.out; rw [HE1.out]; simp [intOf]; omega
    · obtain rfl : i = m := by omega
      clear hlt hi
      have HI1 := am HXB
      clear HXB
      go_wp2
      go_loopw [5, 7] (fun v5 v7 wr => ∃ j : Nat, j ≤ i ∧ v7 = .int .i64 (j : Int) ∧ v5 = .slice none 0 0 ∧  Aside0 (wr.heap[b2]? = some (.cells (pCells P) 26 (0, 0)) ∧ Below w.heap.size w wr)) (fun _ v7 _ => i - (intOf v7).toNat)
      case atStart => exact ⟨0, Nat.zero_le _, rfl, rfl, ⟨HI1.out.out⟩⟩
      case round =>
        clear HI1
        obtain ⟨j, hj, rfl, rfl, HXB⟩ := hrel
        by_cases hlt : j < i
        · have HLT := am hlt
          obtain ⟨ad, rfl, y0, y1, y2, y3, y4, y5⟩ := at_T75 HC.out (j : Int) (by omega) (by omega)
          simp only [Int.toNat_natCast] at y0 y1 y2 y3 y4 y5
          have HXJ := am (And.intro y0 (And.intro y1 (And.intro y2 (And.intro y3 (And.intro y4 y5)))))
          have HT0j := am (thr0 H0.out (j : Int) (by omega) (by have := HLEN.out; omega))
          have x2 := pw_cell_below HXB.out.2 y2
          have p0 := eq_true (show (0 : Int) ≤ (j : Int) by omega)
          have p1 := eq_true (show (j : Int) < (i : Int) by omega)
          have HE1 : Aside0 (wrap64 ((j : Int) + 1) = ((j + 1 : Nat) : Int)) := ⟨wrap64_up j (by have := HM.out; omega)⟩
          clear hlt hj y0 y1 y2 y3 y4 y5
          by_cases hop : (rd_T75 evs (j : Int)).f2 = 7 ∨ (rd_T75 evs (j : Int)).f2 = 8
          · as_aux_lemma =>
              have HZ : ((rd_T75 evs (j : Int)).f2 != 7) = false ∨ (((rd_T75 evs (j : Int)).f2 != 7) = true ∧ ((rd_T75 evs (j : Int)).f2 != 8) = false) := by
                rcases hop with h | h
                · exact .inl (bne_eq_false_iff_eq.2 h)
                · exact .inr ⟨bne_iff_ne.2 (by omega), bne_eq_false_iff_eq.2 h⟩
              clear hop
              rcases HZ with z7 | ⟨z7, z8⟩
              all_goals
                go_wp2_with (first | ((with_reducible refine gd 57 ?_); refine wpList_load_row rfl 26 (.tmp 2) rfl b2 rfl 26 (pCells P) (0, 0) _ HXB.out.1 Try.underlying26 rfl size26 ?_) | (go_at_call 42; refine (marks_any P ad i c evs _ (Kd.C_below HC.out HXB.out.2) H0.out HM.out HPO.out (j : Int) (by omega) (by have := HLT.out; omega)).mono ?_; rintro e W4 ⟨vM, rfl, hb⟩; have HX4 := am (And.intro (blk_below HXB.out.1 hb) (below_step HXB.out.2 hb)); clear hb x2))
                go_loopw [5, 9, 10, 11] (fun v5 v9 v10 v11 wr => ∃ k : Nat, k ≤ 6 ∧ v9 = .int .i64 (k : Int) ∧ v5 = .slice none 0 0 ∧  Aside0 (wr.heap[b2]? = some (.cells (pCells P) 26 (0, 0)) ∧ Below w.heap.size w wr)) (fun _ v9 _ _ _ => 6 - (intOf v9).toNat)
                case atStart => exact ⟨0, Nat.zero_le _, rfl, rfl, ⟨HX4.out⟩⟩
                case round =>
                  clear HX4
                  obtain ⟨k, hk, rfl, rfl, HXB⟩ := hrel
                  by_cases hk6 : k < 6
                  · as_aux_lemma =>
                      have q0 := eq_true (show (k : Int) < (6 : Int) by omega)
                      have HEK : Aside0 (wrap64 ((k : Int) + 1) = ((k + 1 : Nat) : Int)) := ⟨wrap64_up k (by omega)⟩
                      have HK6 := am hk6
                      clear hk hk6
                      go_wp2
                      go_loopw [10, 11] (fun v10 v11 wr => ∃ i : Nat, i ≤ j ∧ v11 = .int .i64 (i : Int) ∧ v10 = .int .i64 (-1) ∧ Aside0 (wr.heap[b2]? = some (.cells (pCells P) 26 (0, 0)) ∧ Below w.heap.size w wr)) (fun _ v11 _ => j - (intOf v11).toNat)
                      case atStart => exact ⟨0, Nat.zero_le _, rfl, rfl, ⟨HXB.out⟩⟩
                      case round =>
                        clear HXB
                        obtain ⟨i2, hi2, rfl, rfl, HXB⟩ := hrel
                        by_cases hlt2 : i2 < j
                        · obtain ⟨ad2, ea2, y0, y1, y2, y3, y4, y5⟩ := at_T75 HC.out (i2 : Int) (by omega) (by have := HLT.out; omega)
                          injection ea2 with ea2
                          subst ea2
                          simp only [Int.toNat_natCast] at y0 y1 y2 y3 y4 y5
                          have HXI := am (And.intro y0 (And.intro y1 (And.intro y2 (And.intro y3 (And.intro y4 y5)))))
                          have HT0i := am (thr0 H0.out (i2 : Int) (by omega) (by have := HLEN.out; have := HLT.out; omega))
                          have HX0 : Aside0 (w.cell? (ad.add (i2 * 6)) = some (.int .i64 0)) := ⟨by rw [← HT0i.out]; exact y0⟩
                          have HB := am HXB.out.2
                          have HX2 := am HXB.out.1
                          have r0 := eq_true (show (0 : Int) ≤ (i2 : Int) by omega)
                          have r1 := eq_true (show (i2 : Int) < (i : Int) by have := HLT.out; omega)
                          have r2 := eq_true (show (i2 : Int) < (j : Int) by omega)
                          have HEI : Aside0 (wrap64 ((i2 : Int) + 1) = ((i2 + 1 : Nat) : Int)) := ⟨wrap64_up i2 (by have := HM.out; have := HLT.out; omega)⟩
                          have HLT2 := am hlt2
                          clear hi2 hlt2 y0 y1 y2 y3 y4 y5 HXB
                          by_cases hk0 : k = 0
                          · as_aux_lemma =>
                              subst hk0
                              go_wp2
                              refine sa 18 (fun w' => Below wr.heap.size wr w') findT19 (below_drew (Below.refl _ _)) [] (fun HT_ hHeld => ?_)
                              refine pu 0 70 HT_ ?_
                              refine pu 1 71 HT_ ?_
                              refine pu 2 72 HT_ ?_
                              refine pu 3 73 HT_ ?_
                              refine ta 4 74 HT_ hHeld (v := ?_) ?_ ?_; rotate_left
                              · intro w' hS'; have y_ := pw_cell_below (below_step HB.out hS') HX0.out; go_simp; with_reducible rfl
                              refine pu 5 75 HT_ ?_
                              refine pu 6 76 HT_ ?_
                              refine pu 7 77 HT_ ?_
                              refine pu 8 78 HT_ ?_
                              refine pu 9 79 HT_ ?_
                              refine pu 10 80 HT_ ?_
                              refine ta 11 81 HT_ hHeld (v := ?_) ?_ ?_; rotate_left
                              · intro w' hS'; have y0 := pw_cell_below (below_step HB.out hS') HXI.out.1; have y1 := pw_cell_below (below_step HB.out hS') HXI.out.2.1; have y2 := pw_cell_below (below_step HB.out hS') HXI.out.2.2.1; have y3 := pw_cell_below (below_step HB.out hS') HXI.out.2.2.2.1; have y4 := pw_cell_below (below_step HB.out hS') HXI.out.2.2.2.2.1; have y5 := pw_cell_below (below_step HB.out hS') HXI.out.2.2.2.2.2; go_simp; with_reducible rfl
                              refine pu 12 82 HT_ ?_
                              refine pu 13 83 HT_ ?_
                              refine pu 14 84 HT_ ?_
                              refine ta 15 85 HT_ hHeld (v := ?_) ?_ ?_; rotate_left
                              · intro w' hS'; have y0 := pw_cell_below (below_step HB.out hS') HXJ.out.1; have y1 := pw_cell_below (below_step HB.out hS') HXJ.out.2.1; have y2 := pw_cell_below (below_step HB.out hS') HXJ.out.2.2.1; have y3 := pw_cell_below (below_step HB.out hS') HXJ.out.2.2.2.1; have y4 := pw_cell_below (below_step HB.out hS') HXJ.out.2.2.2.2.1; have y5 := pw_cell_below (below_step HB.out hS') HXJ.out.2.2.2.2.2; go_simp; with_reducible rfl
                              refine on 16 (some 86) HT_ (fun K hK => ?_)
                              refine cl 43 #[.agg (sE (rd_T75 evs (i2 : Int))), .agg (sE (rd_T75 evs (j : Int)))] ?_
                              refine (conflict_any (rd_T75 evs (i2 : Int)) (rd_T75 evs (j : Int)) _ HT0i.out HT0j.out).mono ?_
                              rintro e wx ⟨rfl, hb⟩
                              have hbx := below_step hHeld hb
                              refine ⟨_, rfl, ?_⟩
                              refine hK.out _ _ (hbx) (fun hHeld => ?_)
                              clear hK K
                              refine nm 86 ?_
                              refine pu 17 87 HT_ ?_
                              refine dn HT_ ?_
                              go_wp2
                              go_roundw
                              case rel => exact ⟨i2 + 1, HLT2.out, by rw [HEI.out], rfl, ⟨blk_below HX2.out hHeld, below_step HB.out hHeld⟩⟩
                              case measure => have := HLT2.out; rw [HEI.out]; simp [intOf]; omega
                          · as_aux_lemma =>
                              have hkz : ((0 : Int) == (k : Int)) = false := beq_eq_false_iff_ne.2 (by omega)
                              have yy := pw_cell_below HB.out HX0.out
                              clear hk0
                              go_wp2
                              go_quiet (fail)
                              go_wp2
                              go_roundw
                              case rel => exact ⟨i2 + 1, HLT2.out, by rw [HEI.out], rfl, ⟨blk_below HX2.out (pw_below_drewN (Below.refl _ _) _), pw_below_drewN HB.out _⟩⟩
                              case measure => have := HLT2.out; rw [HEI.out]; simp [intOf]; omega
                        · as_aux_lemma =>
                            obtain rfl : i2 = j := by omega
                            clear hlt2 hi2
                            go_wp2
                            go_roundw
                            case rel => exact ⟨k + 1, HK6.out, by rw [HEK.out], rfl, ⟨HXB.out⟩⟩
                            case measure => have := HK6.out; rw [HEK.out]; simp [intOf]; omega
                  · as_aux_lemma =>
                      obtain rfl : k = 6 := by omega
                      clear hk6 hk
                      go_wp2
                      go_roundw
                      case rel => exact ⟨j + 1, HLT.out, by rw [HE1.out], rfl, ⟨HXB.out⟩⟩
                      case measure => have := HLT.out; rw [HE1.out]; simp [intOf]; omega
          · as_aux_lemma =>
              have z7 : ((rd_T75 evs (j : Int)).f2 != 7) = true := bne_iff_ne.2 (fun h => hop (.inl h))
              have z8 : ((rd_T75 evs (j : Int)).f2 != 8) = true := bne_iff_ne.2 (fun h => hop (.inr h))
              clear hop
              go_wp2
              go_roundw
              case rel => exact ⟨j + 1, HLT.out, by rw [HE1.out], rfl, ⟨HXB.out⟩⟩
              case measure => have := HLT.out; rw [HE1.out]; simp [intOf]; omega
        · as_aux_lemma =>
            obtain rfl : j = i := by omega
            clear hlt hj
            go_wp2
            go_ret
            exact ⟨rfl, HXB.out.2⟩
end Go.Proofs.Yticdodbnjlnjlaa.P
