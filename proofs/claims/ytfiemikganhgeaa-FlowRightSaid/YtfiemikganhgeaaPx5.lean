-- written by this project's xprint.py (a turn of the kit's printer; its own texts among them)
import Derived.Test.YtfiemikganhgeaaPx0
import Derived.Test.YtfiemikganhgeaaPx3
import Derived.Test.YtfiemikganhgeaaPx4
namespace Go.Proofs.Ytfiemikganhgeaa.P
open Go.RowKit Go.Proofs.YtfiemikganhgeaaW.PrintWords Go.Proofs.YtfiemikganhgeaaW.PrintLast Go.Proofs.YtfiemikganhgeaaW.PrintMore
attribute [local go_sem] max2_int min2_int max_two min_two max_three min_three max_four min_four   -- for this text's walks alone
attribute [local irreducible] Calls
set_option linter.unusedVariables false
set_option linter.unusedSimpArgs false

/-! ### interlocklaw13_FlowRight: function 5 -/
def rightX (b : Bool) (rs : List Int × List Int) (i : Nat) : Int := if b = true then rd rs.2 (i : Int) else rd rs.1 (i : Int)
def rightY (b : Bool) (rs : List Int × List Int) (i : Nat) : Int := if b = true then rd rs.1 (i : Int) else rd rs.2 (i : Int)
def rightB (gs ks : List Int) (b : Bool) (rs : List Int × List Int) : Bool := (List.range rs.1.length).all fun i => decide (rightY b rs i = outI gs ks (i : Int) (rightX b rs i))
def interlocklaw13_FlowRight.f (k : Nat) (a0 : Int) (l1 l2 l3 : List Int) (a4 a5 : Int) : Option Bool := (interlocklaw13_known.f k).bind fun kn => if kn = true then (if (l2.length : Int) > 70 then some true else if (l3.length : Int) > 70 then some true else (interlocklaw10_Graph.f k a0 l1).bind fun g => (flow_Solve.f k g l2 l3 a4 (mOf a5) (bOf a5)).bind fun rs => if rs.1.length = g.length then (if rs.2.length = g.length then (if rightB l2 l3 (bOf a5) rs = true then some true else none) else none) else none) else none
theorem interlocklaw13_FlowRight.mono : ∀ a0 a1 a2 a3 a4 a5 k, LeO (interlocklaw13_FlowRight.f k a0 a1 a2 a3 a4 a5) (interlocklaw13_FlowRight.f (k + 1) a0 a1 a2 a3 a4 a5) := by
  intro a0 a1 a2 a3 a4 a5 k
  unfold interlocklaw13_FlowRight.f
  exact LeO.bind (interlocklaw13_known.mono k) (fun kn => LeO.ite (LeO.ite (LeO.refl _) (LeO.ite (LeO.refl _) (LeO.bind (interlocklaw10_Graph.mono _ _ k) (fun g => LeO.bind (flow_Solve.mono _ _ _ _ _ _ k) (fun rs => LeO.refl _))))) (LeO.refl _))
set_option maxHeartbeats 8000000 in
set_option maxRecDepth 100000 in
theorem interlocklaw13_FlowRight.calls (k : Nat) (a0 : Int) (A1 : Option Addr) (c1 : Nat) (l1 : List Int) (A2 : Option Addr) (c2 : Nat) (l2 : List Int) (A3 : Option Addr) (c3 : Nat) (l3 : List Int) (a4 : Int) (a5 : Int) (r : Bool) (w : World) (hr1 : Kd.C (Kd.int .u8) w A1 l1.length l1) (hc1 : l1.length ≤ c1) (hr2 : Kd.C (Kd.int .u64) w A2 l2.length l2) (hc2 : l2.length ≤ c2) (hr3 : Kd.C (Kd.int .u64) w A3 l3.length l3) (hc3 : l3.length ≤ c3) (h : interlocklaw13_FlowRight.f k a0 l1 l2 l3 a4 a5 = some r) :
    Calls Try.prog 5 #[.int .u8 a0, .slice A1 l1.length c1, .slice A2 l2.length c2, .slice A3 l3.length c3, .int .u64 a4, .int .u8 a5] w fun e w' => e = .returned (.bool r) ∧ Below w.heap.size w w' := by
  have hu31 := Try.underlying31
  have HR1 := Aside0.mk hr1
  have HC1 := Aside0.mk hc1
  have HR2 := Aside0.mk hr2
  have HC2 := Aside0.mk hc2
  have HR3 := Aside0.mk hr3
  have HC3 := Aside0.mk hc3
  have HB1 := Aside0.mk (Below.refl w.heap.size w)
  clear hr1 hc1 hr2 hc2 hr3 hc3
  unfold interlocklaw13_FlowRight.f at h
  obtain ⟨kn, hk, h⟩ := Option.bind_eq_some_iff.1 h
  cases kn with
  | false => cases h
  | true =>
  rw [if_pos rfl] at h
  have HK := Aside0.mk hk
  clear hk
  by_cases b2 : (l2.length : Int) > 70
  · rw [if_pos b2] at h
    obtain rfl := Option.some.inj h
    have d2 : decide (70 < (l2.length : Int)) = true := decide_eq_true b2
    have d2n : decide (70 < l2.length) = true := decide_eq_true (by omega)
    clear h b2
    go_enter Try.func5, Try.ntmps5
    go_wp2_with (go_at_call 8; (with_reducible refine (interlocklaw13_known.calls k true _ HK.out).mono ?_); rintro e w2 ⟨rfl, hb⟩; have HB2 := Aside0.mk (below_step HB1.out hb); clear hb)
    go_ret
    exact ⟨rfl, HB2.out⟩
  rw [if_neg b2] at h
  have d2 : decide (70 < (l2.length : Int)) = false := decide_eq_false b2
  have d2n : decide (70 < l2.length) = false := decide_eq_false (by omega)
  by_cases b3 : (l3.length : Int) > 70
  · rw [if_pos b3] at h
    obtain rfl := Option.some.inj h
    have d3 : decide (70 < (l3.length : Int)) = true := decide_eq_true b3
    have d3n : decide (70 < l3.length) = true := decide_eq_true (by omega)
    clear h b2 b3
    go_enter Try.func5, Try.ntmps5
    go_wp2_with (go_at_call 8; (with_reducible refine (interlocklaw13_known.calls k true _ HK.out).mono ?_); rintro e w2 ⟨rfl, hb⟩; have HB2 := Aside0.mk (below_step HB1.out hb); clear hb)
    go_ret
    exact ⟨rfl, HB2.out⟩
  rw [if_neg b3] at h
  have d3 : decide (70 < (l3.length : Int)) = false := decide_eq_false b3
  have d3n : decide (70 < l3.length) = false := decide_eq_false (by omega)
  obtain ⟨g, hG, h⟩ := Option.bind_eq_some_iff.1 h
  obtain ⟨⟨r1, r2⟩, hS, h⟩ := Option.bind_eq_some_iff.1 h
  by_cases e1 : r1.length = g.length
  case neg => rw [if_neg e1] at h; cases h
  rw [if_pos e1] at h
  by_cases e2 : r2.length = g.length
  case neg => rw [if_neg e2] at h; cases h
  rw [if_pos e2] at h
  by_cases e3 : rightB l2 l3 (bOf a5) (r1, r2) = true
  case neg => rw [if_neg e3] at h; cases h
  rw [if_pos e3] at h
  obtain rfl := Option.some.inj h
  have HG := Aside0.mk hG
  have HS := Aside0.mk hS
  have HR := Aside0.mk (List.all_eq_true.1 e3)
  have HE1 := Aside0.mk e1
  have HE2 := Aside0.mk e2
  have n1 : ((r1.length : Int) != (g.length : Int)) = false := by rw [e1]; simp
  have n2 : ((r2.length : Int) != (g.length : Int)) = false := by rw [e2]; simp
  have n1' : (r1.length == g.length) = true := by rw [e1]; simp
  have n2' : (r2.length == g.length) = true := by rw [e2]; simp
  clear h hG hS e1 e2 e3 b2 b3
  go_enter Try.func5, Try.ntmps5
  go_wp2_with (first | (go_at_call 8; (with_reducible refine (interlocklaw13_known.calls k true _ HK.out).mono ?_); rintro e w1 ⟨rfl, hb⟩; have HB1 := Aside0.mk hb; clear hb) | (go_at_call 12; refine (prob_any k a0 A1 c1 l1 A2 A3 l2.length c2 l3.length c3 a4 a5 g _ (Kd.C_below HR1.out HB1.out) HC1.out HG.out).mono ?_; rintro e w2 ⟨Ag, cg, rfl, hcg, hrg, hb⟩; have HCG := Aside0.mk hcg; have HRG := Aside0.mk hrg; have HB2 := Aside0.mk (below_step HB1.out hb); clear hcg hrg hb) | ((with_reducible refine gate_dst (N := 13) rfl ?_); refine box_event ?hg (N := 13) ?hd (cs := #[.slice none 0 0, .slice none 0 0, .slice none 0 0, .int .u64 0, .bool false, .bool false]) (t := 31) ?hr ?_; (case hd => rfl); (case hg => rfl); (case hr => first | (go_simp; done) | (go_simp; rfl)); intro gb hg w3 hbox hb; have HX := Aside0.mk hbox; have HB23 := Aside0.mk hb; have HB3 := Aside0.mk (below_step HB2.out hb); have HGL := Aside0.mk (show w2.heap.size ≤ gb by rw [hg]; exact Nat.le_refl _); have HGE := Aside0.mk (Nat.le_trans (below_size HB2.out) HGL.out); clear hg hbox hb; have hz0 := (blk_cell HX.out 0).trans rfl; have hf0 := blk_frozen HX.out 0; have hz1 := (blk_cell HX.out 1).trans rfl; have hf1 := blk_frozen HX.out 1; have hz2 := (blk_cell HX.out 2).trans rfl; have hf2 := blk_frozen HX.out 2; have hz3 := (blk_cell HX.out 3).trans rfl; have hf3 := blk_frozen HX.out 3; have hz4 := (blk_cell HX.out 4).trans rfl; have hf4 := blk_frozen HX.out 4; have hz5 := (blk_cell HX.out 5).trans rfl; have hf5 := blk_frozen HX.out 5) | ((with_reducible refine gate_store (t := 31) (p := 13) rfl ?_); refine store_event (w1 := ((((((w3.setCell ⟨gb, 0, none⟩ (.slice Ag g.length cg)).setCell ⟨gb, 1, none⟩ (.slice A2 l2.length c2)).setCell ⟨gb, 2, none⟩ (.slice A3 l3.length c3)).setCell ⟨gb, 3, none⟩ (.int .u64 a4)).setCell ⟨gb, 4, none⟩ (.bool (mOf a5))).setCell ⟨gb, 5, none⟩ (.bool (bOf a5)))) rfl rfl rfl ?hr ?_; (case hr => first | (go_simp; done) | (go_simp; rfl)); intro w4 hS; have HX4 : Aside0 (w4.heap[gb]? = some (.cells #[.slice Ag g.length cg, .slice A2 l2.length c2, .slice A3 l3.length c3, .int .u64 a4, .bool (mOf a5), .bool (bOf a5)] 31 (0, 0))) := ⟨by rw [hS]; exact (blk_put (cs := #[.slice Ag g.length cg, .slice A2 l2.length c2, .slice A3 l3.length c3, .int .u64 a4, .bool (mOf a5), .bool false]) (blk_put (cs := #[.slice Ag g.length cg, .slice A2 l2.length c2, .slice A3 l3.length c3, .int .u64 a4, .bool false, .bool false]) (blk_put (cs := #[.slice Ag g.length cg, .slice A2 l2.length c2, .slice A3 l3.length c3, .int .u64 0, .bool false, .bool false]) (blk_put (cs := #[.slice Ag g.length cg, .slice A2 l2.length c2, .slice none 0 0, .int .u64 0, .bool false, .bool false]) (blk_put (cs := #[.slice Ag g.length cg, .slice none 0 0, .slice none 0 0, .int .u64 0, .bool false, .bool false]) (blk_put (cs := #[.slice none 0 0, .slice none 0 0, .slice none 0 0, .int .u64 0, .bool false, .bool false]) HX.out 0 (.slice Ag g.length cg) rfl) 1 (.slice A2 l2.length c2) rfl) 2 (.slice A3 l3.length c3) rfl) 3 (.int .u64 a4) rfl) 4 (.bool (mOf a5)) rfl) 5 (.bool (bOf a5)) rfl)⟩; have HB4 : Aside0 (Below w.heap.size w w4) := ⟨by rw [hS]; exact (below_set (below_set (below_set (below_set (below_set (below_set HB3.out HGE.out) HGE.out) HGE.out) HGE.out) HGE.out) HGE.out)⟩; have HB24 : Aside0 (Below w2.heap.size w2 w4) := ⟨by rw [hS]; exact (below_set (below_set (below_set (below_set (below_set (below_set HB23.out HGL.out) HGL.out) HGL.out) HGL.out) HGL.out) HGL.out)⟩; clear hS hz0 hf0 hz1 hf1 hz2 hf2 hz3 hf3 hz4 hf4 hz5 hf5; have hy0 := (blk_cell HX4.out 0).trans rfl; have hy1 := (blk_cell HX4.out 1).trans rfl; have hy2 := (blk_cell HX4.out 2).trans rfl; have hy3 := (blk_cell HX4.out 3).trans rfl; have hy4 := (blk_cell HX4.out 4).trans rfl; have hy5 := (blk_cell HX4.out 5).trans rfl) | (go_at_call 10; refine (flow_Solve.calls k Ag cg g A2 c2 l2 A3 c3 l3 a4 (mOf a5) (bOf a5) r1 r2 _ (Kd.C_below HRG.out HB24.out) HCG.out (Kd.C_below HR2.out HB4.out) HC2.out (Kd.C_below HR3.out HB4.out) HC3.out HS.out).mono ?_; rintro e w5 ⟨v0, v1, rfl, h0, h1, hb⟩; obtain ⟨B0, d0, e0⟩ := Kd.R_slice h0; obtain ⟨B1, d1, e1⟩ := Kd.R_slice h1; subst e0 e1; have HQ0 := Aside0.mk (Kd.R_reads' h0).2.2; have HQ1 := Aside0.mk (Kd.R_reads' h1).2.2; have HX5 := Aside0.mk (blk_below HX4.out hb); have HB5 := Aside0.mk (below_step HB4.out hb); clear h0 h1 hb hy0 hy1 hy2 hy3 hy4 hy5; have hy0 := (blk_cell HX5.out 0).trans rfl; have hy5 := (blk_cell HX5.out 5).trans rfl))
  have HW := Aside0.mk (Below.refl w5.heap.size w5)
  have hm := Kd.C_max HQ0.out
  have HZ0 := Aside0.mk hy0
  have HZ5 := Aside0.mk hy5
  clear hy0 hy5
  go_loopw [16] (fun v16 wr => ∃ j : Nat, j ≤ r1.length ∧ v16 = .int .i64 (j : Int) ∧ Aside0 (Below w5.heap.size w5 wr)) (fun v16 _ => r1.length - (intOf v16).toNat)
  case atStart => exact ⟨0, Nat.zero_le _, rfl, HW⟩
  case round =>
    clear HW
    obtain ⟨j, hj, rfl, HW⟩ := hrel
    by_cases hlt : j < r1.length
    · have hR : rightY (bOf a5) (r1, r2) j = outI l2 l3 (j : Int) (rightX (bOf a5) (r1, r2) j) := by simpa using HR.out j (List.mem_range.2 hlt)
      have hy5 := pw_cell_below HW.out HZ5.out
      have l12 : r2.length = r1.length := HE2.out.trans HE1.out.symm
      obtain ⟨x0, q0, hx0⟩ := Kd.at_int (Kd.C_below HQ0.out HW.out) (j : Int) (by omega) (by omega)
      obtain ⟨x1, q1, hx1⟩ := Kd.at_int (Kd.C_below HQ1.out HW.out) (j : Int) (by omega) (by omega)
      subst q0 q1
      rw [Int.toNat_natCast] at hx0 hx1
      have HB6 := Aside0.mk (below_step HB5.out HW.out)
      have gF : (decide ((j : Int) < (l2.length : Int)) = true ∧ ∃ ad, A2 = some ad ∧ wr.cell? (ad.add j) = some (.int .u64 (atI l2 (j : Int)))) ∨ (decide ((j : Int) < (l2.length : Int)) = false ∧ atI l2 (j : Int) = 0) := by
        unfold atI
        by_cases hc : (j : Int) < (l2.length : Int)
        · obtain ⟨ad, q, hx⟩ := Kd.at_int (Kd.C_below HR2.out HB6.out) (j : Int) (by omega) hc
          rw [Int.toNat_natCast] at hx
          exact .inl ⟨decide_eq_true hc, ad, q, by rw [if_neg (by omega)]; exact hx⟩
        · exact .inr ⟨decide_eq_false hc, by rw [if_pos (by omega)]⟩
      have kF : (decide ((j : Int) < (l3.length : Int)) = true ∧ ∃ ad, A3 = some ad ∧ wr.cell? (ad.add j) = some (.int .u64 (atI l3 (j : Int)))) ∨ (decide ((j : Int) < (l3.length : Int)) = false ∧ atI l3 (j : Int) = 0) := by
        unfold atI
        by_cases hc : (j : Int) < (l3.length : Int)
        · obtain ⟨ad, q, hx⟩ := Kd.at_int (Kd.C_below HR3.out HB6.out) (j : Int) (by omega) hc
          rw [Int.toNat_natCast] at hx
          exact .inl ⟨decide_eq_true hc, ad, q, by rw [if_neg (by omega)]; exact hx⟩
        · exact .inr ⟨decide_eq_false hc, by rw [if_pos (by omega)]⟩
      have pj0 := eq_true (show (0 : Int) ≤ (j : Int) by omega)
      have pj1 := eq_true (show (j : Int) < (r1.length : Int) by omega)
      have pj2 := eq_true (show (j : Int) < (r2.length : Int) by omega)
      have pn1 : decide (j < r1.length) = true := decide_eq_true hlt
      have pn2 : decide (j < r2.length) = true := decide_eq_true (by omega)
      unfold outI rightX rightY at hR
      dsimp only at hR
      generalize atI l2 (j : Int) = GV at hR gF
      generalize atI l3 (j : Int) = KV at hR kF
      generalize bOf a5 = bb at hR hy5
      have HZ5' := HZ5
      clear HZ5 HR
      rcases gF with ⟨dg, ag, rfl, hg⟩ | ⟨dg, rfl⟩
      all_goals
        rcases kF with ⟨dk, ak, rfl, hk⟩ | ⟨dk, rfl⟩
        all_goals
          cases bb
          focus
            have dy := bne_eq_false_iff_eq.2 hR
            rw [if_neg (by decide), if_neg (by decide)] at dy
            clear hR
            try simp only [decide_eq_true_eq, decide_eq_false_iff_not, Int.not_lt] at dg dk
            go_wp2
            go_roundw
            case rel => exact ⟨j + 1, by omega, by go_num, HW⟩
            case measure => simp [intOf]; omega
          focus
            have dy := bne_eq_false_iff_eq.2 hR
            rw [if_pos rfl, if_pos rfl] at dy
            clear hR
            try simp only [decide_eq_true_eq, decide_eq_false_iff_not, Int.not_lt] at dg dk
            go_wp2
            go_roundw
            case rel => exact ⟨j + 1, by omega, by go_num, HW⟩
            case measure => simp [intOf]; omega
    · obtain rfl : j = r1.length := by omega
      go_wp2
      go_ret
      exact ⟨rfl, below_step HB5.out HW.out⟩

end Go.Proofs.Ytfiemikganhgeaa.P
