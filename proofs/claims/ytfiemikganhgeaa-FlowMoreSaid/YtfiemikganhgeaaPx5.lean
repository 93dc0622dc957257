-- written by this project's xprint.py (a turn of the kit's printer; its own texts among them)
import Derived.Test.YtfiemikganhgeaaPx0
import Derived.Test.YtfiemikganhgeaaPx3
import Derived.Test.YtfiemikganhgeaaPx4
namespace Go.Proofs.Ytfiemikganhgeaa.P
open Go.RowKit Go.Proofs.YtfiemikganhgeaaW.PrintWords Go.Proofs.YtfiemikganhgeaaW.PrintLast Go.Proofs.YtfiemikganhgeaaW.PrintMore
attribute [local go_sem] max2_int min2_int max_two min_two max_three min_three max_four min_four   -- for this text's walks alone
attribute [local irreducible] Calls
set_option linter.unusedVariables false
set_option linter.unusedSimpArgs false

/-! ### interlocklaw13_FlowMore: function 6 -/
def gen2 (l : List Int) (more a : Int) : List Int := if l.length = 0 then l else l.set (Int.tmod a (l.length : Int)).toNat (Go.bits .or .u64 (rd l (Int.tmod a (l.length : Int))) more)
theorem gen2_len (l : List Int) (more a : Int) : (gen2 l more a).length = l.length := by unfold gen2; split <;> first | rfl | exact List.length_set
def lessB (rs ts : List Int × List Int) : Bool := (List.range rs.1.length).all fun i => decide (Go.bits .andNot .u64 (rd rs.1 (i : Int)) (rd ts.1 (i : Int)) = 0) && decide (Go.bits .andNot .u64 (rd rs.2 (i : Int)) (rd ts.2 (i : Int)) = 0)
def interlocklaw13_FlowMore.f (k : Nat) (a0 : Int) (l1 l2 l3 : List Int) (a4 a5 a6 a7 : Int) : Option Bool := (interlocklaw13_known.f k).bind fun kn => if kn = true then (if (l2.length : Int) > 70 then some true else if (l3.length : Int) > 70 then some true else if 0 ≤ a7 ∧ a7 ≤ 255 then (interlocklaw10_Graph.f k a0 l1).bind fun g => (flow_Solve.f k g l2 l3 a4 (mOf a6) (bOf a6)).bind fun rs => (flow_Solve.f k g (gen2 l2 a5 a7) l3 (Go.bits .or .u64 a4 a5) (mOf a6) (bOf a6)).bind fun ts => if rs.1.length = g.length ∧ rs.2.length = g.length ∧ ts.1.length = g.length ∧ ts.2.length = g.length then (if lessB rs ts = true then some true else none) else none else none) else none
theorem interlocklaw13_FlowMore.mono : ∀ a0 a1 a2 a3 a4 a5 a6 a7 k, LeO (interlocklaw13_FlowMore.f k a0 a1 a2 a3 a4 a5 a6 a7) (interlocklaw13_FlowMore.f (k + 1) a0 a1 a2 a3 a4 a5 a6 a7) := by
  intro a0 a1 a2 a3 a4 a5 a6 a7 k
  unfold interlocklaw13_FlowMore.f
  exact LeO.bind (interlocklaw13_known.mono k) (fun kn => LeO.ite (LeO.ite (LeO.refl _) (LeO.ite (LeO.refl _) (LeO.ite (LeO.bind (interlocklaw10_Graph.mono _ _ k) (fun g => LeO.bind (flow_Solve.mono _ _ _ _ _ _ k) (fun rs => LeO.bind (flow_Solve.mono _ _ _ _ _ _ k) (fun ts => LeO.refl _)))) (LeO.refl _)))) (LeO.refl _))
theorem moreT10 : rtab .any (opsOf Try.f6 10) = rtab .any (opsOf Try.f6 10) := rfl
set_option maxHeartbeats 8000000 in
set_option maxRecDepth 100000 in
theorem interlocklaw13_FlowMore.calls (k : Nat) (a0 : Int) (A1 : Option Addr) (c1 : Nat) (l1 : List Int) (A2 : Option Addr) (c2 : Nat) (l2 : List Int) (A3 : Option Addr) (c3 : Nat) (l3 : List Int) (a4 : Int) (a5 : Int) (a6 : Int) (a7 : Int) (r : Bool) (w : World) (hr1 : Kd.C (Kd.int .u8) w A1 l1.length l1) (hc1 : l1.length ≤ c1) (hr2 : Kd.C (Kd.int .u64) w A2 l2.length l2) (hc2 : l2.length ≤ c2) (hr3 : Kd.C (Kd.int .u64) w A3 l3.length l3) (hc3 : l3.length ≤ c3) (h : interlocklaw13_FlowMore.f k a0 l1 l2 l3 a4 a5 a6 a7 = some r) :
    Calls Try.prog 6 #[.int .u8 a0, .slice A1 l1.length c1, .slice A2 l2.length c2, .slice A3 l3.length c3, .int .u64 a4, .int .u64 a5, .int .u8 a6, .int .u8 a7] w fun e w' => e = .returned (.bool r) ∧ Below w.heap.size w w' := by
  have hu31 := Try.underlying31
  have HR1 := Aside0.mk hr1
  have HC1 := Aside0.mk hc1
  have HR2 := Aside0.mk hr2
  have HC2 := Aside0.mk hc2
  have HR3 := Aside0.mk hr3
  have HC3 := Aside0.mk hc3
  have HB1 := Aside0.mk (Below.refl w.heap.size w)
  clear hr1 hc1 hr2 hc2 hr3 hc3
  unfold interlocklaw13_FlowMore.f at h
  obtain ⟨kn, hk, h⟩ := Option.bind_eq_some_iff.1 h
  cases kn with
  | false => cases h
  | true =>
  rw [if_pos rfl] at h
  have HK := Aside0.mk hk
  clear hk
  by_cases b2 : (l2.length : Int) > 70
  · rw [if_pos b2] at h
    obtain rfl := Option.some.inj h
    have d2 : decide (70 < (l2.length : Int)) = true := decide_eq_true b2
    have d2n : decide (70 < l2.length) = true := decide_eq_true (by omega)
    clear h b2
    go_enter Try.func6, Try.ntmps6
    go_wp2_with (go_at_call 8; (with_reducible refine (interlocklaw13_known.calls k true _ HK.out).mono ?_); rintro e w2 ⟨rfl, hb⟩; have HB2 := Aside0.mk (below_step HB1.out hb); clear hb)
    go_ret
    exact ⟨rfl, HB2.out⟩
  rw [if_neg b2] at h
  have d2 : decide (70 < (l2.length : Int)) = false := decide_eq_false b2
  have d2n : decide (70 < l2.length) = false := decide_eq_false (by omega)
  by_cases b3 : (l3.length : Int) > 70
  · rw [if_pos b3] at h
    obtain rfl := Option.some.inj h
    have d3 : decide (70 < (l3.length : Int)) = true := decide_eq_true b3
    have d3n : decide (70 < l3.length) = true := decide_eq_true (by omega)
    clear h b2 b3
    go_enter Try.func6, Try.ntmps6
    go_wp2_with (go_at_call 8; (with_reducible refine (interlocklaw13_known.calls k true _ HK.out).mono ?_); rintro e w2 ⟨rfl, hb⟩; have HB2 := Aside0.mk (below_step HB1.out hb); clear hb)
    go_ret
    exact ⟨rfl, HB2.out⟩
  rw [if_neg b3] at h
  have d3 : decide (70 < (l3.length : Int)) = false := decide_eq_false b3
  have d3n : decide (70 < l3.length) = false := decide_eq_false (by omega)
  by_cases b7 : 0 ≤ a7 ∧ a7 ≤ 255
  case neg => rw [if_neg b7] at h; cases h
  rw [if_pos b7] at h
  obtain ⟨g, hG, h⟩ := Option.bind_eq_some_iff.1 h
  obtain ⟨⟨r1, r2⟩, hS, h⟩ := Option.bind_eq_some_iff.1 h
  obtain ⟨⟨t1, t2⟩, hS2, h⟩ := Option.bind_eq_some_iff.1 h
  by_cases e1 : r1.length = g.length ∧ r2.length = g.length ∧ t1.length = g.length ∧ t2.length = g.length
  case neg => rw [if_neg e1] at h; cases h
  rw [if_pos e1] at h
  by_cases e3 : lessB (r1, r2) (t1, t2) = true
  case neg => rw [if_neg e3] at h; cases h
  rw [if_pos e3] at h
  obtain rfl := Option.some.inj h
  have HG := Aside0.mk hG
  have HS := Aside0.mk hS
  have HS2 := Aside0.mk hS2
  have HR := Aside0.mk (List.all_eq_true.1 e3)
  have HE := Aside0.mk e1
  have HL70 := Aside0.mk (show l2.length ≤ 70 by omega)
  have H7 := Aside0.mk b7
  have hl70 : l2.length ≤ 70 := HL70.out
  clear h hG hS hS2 e1 e3 b2 b3 b7
  have SOLV : Aside0 (∀ (W : World) (Ag : Option Addr) (cg : Nat) (A : Option Addr) (c : Nat), Kd.C (Kd.slice 3 (Kd.int .i64)) W Ag g.length g → g.length ≤ cg → Kd.C (Kd.int .u64) W A l2.length (gen2 l2 a5 a7) → l2.length ≤ c → Kd.C (Kd.int .u64) W A3 l3.length l3 →
      Calls Try.prog 10 #[.agg #[.slice Ag g.length cg, .slice A l2.length c, .slice A3 l3.length c3, .int .u64 (Go.bits .or .u64 a4 a5), .bool (mOf a6), .bool (bOf a6)]] W fun e w' => ∃ v0_ v1_ : Value, e = .returned (.tuple #[v0_, v1_]) ∧ Kd.R (Kd.int .u64) 24 w' W.heap.size (fun k_ => some k_ ≠ (v1_ : Value).ownBlock) v0_ t1 ∧ Kd.R (Kd.int .u64) 24 w' W.heap.size (fun k_ => some k_ ≠ (v0_ : Value).ownBlock) v1_ t2 ∧ Below W.heap.size W w') := ⟨by
    intro W Ag cg A c q1 q2 q3 q4 q5
    have hln := gen2_len l2 a5 a7
    have h := flow_Solve.calls k Ag cg g A c (gen2 l2 a5 a7) A3 c3 l3 (Go.bits .or .u64 a4 a5) (mOf a6) (bOf a6) t1 t2 W q1 q2 (by rw [hln]; exact q3) (by rw [hln]; exact q4) q5 HC3.out HS2.out
    rw [hln] at h
    exact h⟩
  rcases Nat.eq_zero_or_pos l2.length with b0 | b0
  · have HG2 : Aside0 (gen2 l2 a5 a7 = l2) := ⟨by unfold gen2; rw [if_pos b0]⟩
    have d0 : decide ((0 : Int) < (l2.length : Int)) = false := decide_eq_false (by omega)
    have d0n : decide (0 < l2.length) = false := decide_eq_false (by omega)
    clear b0
    go_enter Try.func6, Try.ntmps6
    go_wp2_with (first | (go_at_call 8; (with_reducible refine (interlocklaw13_known.calls k true _ HK.out).mono ?_); rintro e w1 ⟨rfl, hb⟩; have HB1 := Aside0.mk hb; clear hb) | (go_at_call 12; refine (prob_any k a0 A1 c1 l1 A2 A3 l2.length c2 l3.length c3 a4 a6 g _ (Kd.C_below HR1.out HB1.out) HC1.out HG.out).mono ?_; rintro e w2 ⟨Ag, cg, rfl, hcg, hrg, hb⟩; have HCG := Aside0.mk hcg; have HRG := Aside0.mk hrg; have HB2 := Aside0.mk (below_step HB1.out hb); clear hcg hrg hb) | ((with_reducible refine gate_dst (N := 17) rfl ?_); refine box_event ?hg (N := 17) ?hd (cs := #[.slice none 0 0, .slice none 0 0, .slice none 0 0, .int .u64 0, .bool false, .bool false]) (t := 31) ?hr ?_; (case hd => rfl); (case hg => rfl); (case hr => first | (go_simp; done) | (go_simp; rfl)); intro gb hg w3 hbox hb; have HX := Aside0.mk hbox; have HB23 := Aside0.mk hb; have HB3 := Aside0.mk (below_step HB2.out hb); have HGL := Aside0.mk (show w2.heap.size ≤ gb by rw [hg]; exact Nat.le_refl _); have HGE := Aside0.mk (Nat.le_trans (below_size HB2.out) HGL.out); clear hg hbox hb; have hz0 := (blk_cell HX.out 0).trans rfl; have hf0 := blk_frozen HX.out 0; have hz1 := (blk_cell HX.out 1).trans rfl; have hf1 := blk_frozen HX.out 1; have hz2 := (blk_cell HX.out 2).trans rfl; have hf2 := blk_frozen HX.out 2; have hz3 := (blk_cell HX.out 3).trans rfl; have hf3 := blk_frozen HX.out 3; have hz4 := (blk_cell HX.out 4).trans rfl; have hf4 := blk_frozen HX.out 4; have hz5 := (blk_cell HX.out 5).trans rfl; have hf5 := blk_frozen HX.out 5) | ((with_reducible refine gate_store (t := 31) (p := 17) rfl ?_); refine store_event (w1 := ((((((w3.setCell ⟨gb, 0, none⟩ (.slice Ag g.length cg)).setCell ⟨gb, 1, none⟩ (.slice A2 l2.length c2)).setCell ⟨gb, 2, none⟩ (.slice A3 l3.length c3)).setCell ⟨gb, 3, none⟩ (.int .u64 a4)).setCell ⟨gb, 4, none⟩ (.bool (mOf a6))).setCell ⟨gb, 5, none⟩ (.bool (bOf a6)))) rfl rfl rfl ?hr ?_; (case hr => first | (go_simp; done) | (go_simp; rfl)); intro w4 hS; have HX4 : Aside0 (w4.heap[gb]? = some (.cells #[.slice Ag g.length cg, .slice A2 l2.length c2, .slice A3 l3.length c3, .int .u64 a4, .bool (mOf a6), .bool (bOf a6)] 31 (0, 0))) := ⟨by rw [hS]; exact (blk_put (cs := #[.slice Ag g.length cg, .slice A2 l2.length c2, .slice A3 l3.length c3, .int .u64 a4, .bool (mOf a6), .bool false]) (blk_put (cs := #[.slice Ag g.length cg, .slice A2 l2.length c2, .slice A3 l3.length c3, .int .u64 a4, .bool false, .bool false]) (blk_put (cs := #[.slice Ag g.length cg, .slice A2 l2.length c2, .slice A3 l3.length c3, .int .u64 0, .bool false, .bool false]) (blk_put (cs := #[.slice Ag g.length cg, .slice A2 l2.length c2, .slice none 0 0, .int .u64 0, .bool false, .bool false]) (blk_put (cs := #[.slice Ag g.length cg, .slice none 0 0, .slice none 0 0, .int .u64 0, .bool false, .bool false]) (blk_put (cs := #[.slice none 0 0, .slice none 0 0, .slice none 0 0, .int .u64 0, .bool false, .bool false]) HX.out 0 (.slice Ag g.length cg) rfl) 1 (.slice A2 l2.length c2) rfl) 2 (.slice A3 l3.length c3) rfl) 3 (.int .u64 a4) rfl) 4 (.bool (mOf a6)) rfl) 5 (.bool (bOf a6)) rfl)⟩; have HB4 : Aside0 (Below w.heap.size w w4) := ⟨by rw [hS]; exact (below_set (below_set (below_set (below_set (below_set (below_set HB3.out HGE.out) HGE.out) HGE.out) HGE.out) HGE.out) HGE.out)⟩; have HB24 : Aside0 (Below w2.heap.size w2 w4) := ⟨by rw [hS]; exact (below_set (below_set (below_set (below_set (below_set (below_set HB23.out HGL.out) HGL.out) HGL.out) HGL.out) HGL.out) HGL.out)⟩; clear hS hz0 hf0 hz1 hf1 hz2 hf2 hz3 hf3 hz4 hf4 hz5 hf5; have hy0 := (blk_cell HX4.out 0).trans rfl; have hy1 := (blk_cell HX4.out 1).trans rfl; have hy2 := (blk_cell HX4.out 2).trans rfl; have hy3 := (blk_cell HX4.out 3).trans rfl; have hy4 := (blk_cell HX4.out 4).trans rfl; have hy5 := (blk_cell HX4.out 5).trans rfl) | (go_at_call 10; refine (flow_Solve.calls k Ag cg g A2 c2 l2 A3 c3 l3 a4 (mOf a6) (bOf a6) r1 r2 _ (Kd.C_below HRG.out HB24.out) HCG.out (Kd.C_below HR2.out HB4.out) HC2.out (Kd.C_below HR3.out HB4.out) HC3.out HS.out).mono ?_; rintro e w5 ⟨v0, v1, rfl, h0, h1, hb⟩; obtain ⟨B0, d0, e0⟩ := Kd.R_slice h0; obtain ⟨B1, d1, e1⟩ := Kd.R_slice h1; subst e0 e1; have HQ0 := Aside0.mk (Kd.R_reads' h0).2.2; have HQ1 := Aside0.mk (Kd.R_reads' h1).2.2; have HX5 := Aside0.mk (blk_below HX4.out hb); have HB5 := Aside0.mk (below_step HB4.out hb); have HB25 := Aside0.mk (below_step HB24.out hb); clear h0 h1 hb hy0 hy1 hy2 hy3 hy4 hy5; have hy0 := (blk_cell HX5.out 0).trans rfl; have hy1 := (blk_cell HX5.out 1).trans rfl; have hy2 := (blk_cell HX5.out 2).trans rfl; have hy3 := (blk_cell HX5.out 3).trans rfl; have hy4 := (blk_cell HX5.out 4).trans rfl; have hy5 := (blk_cell HX5.out 5).trans rfl) | ((with_reducible refine gate_dst (N := 20) rfl ?_); refine box_event ?hg (N := 20) ?hd (cs := #[.slice none 0 0, .slice none 0 0, .slice none 0 0, .int .u64 0, .bool false, .bool false]) (t := 31) ?hr ?_; (case hd => rfl); (case hg => rfl); (case hr => first | (go_simp; done) | (go_simp; rfl)); intro gq hg w6 hbox hb; have HX6 := Aside0.mk hbox; have HB56 := Aside0.mk hb; have HGQ := Aside0.mk (show w5.heap.size ≤ gq by rw [hg]; exact Nat.le_refl _); have HY6 := Aside0.mk (blk_below HX5.out hb); clear hg hbox hb hy0 hy1 hy2 hy3 hy4 hy5; have hz0 := (blk_cell HX6.out 0).trans rfl; have hf0 := blk_frozen HX6.out 0; have hz1 := (blk_cell HX6.out 1).trans rfl; have hf1 := blk_frozen HX6.out 1; have hz2 := (blk_cell HX6.out 2).trans rfl; have hf2 := blk_frozen HX6.out 2; have hz3 := (blk_cell HX6.out 3).trans rfl; have hf3 := blk_frozen HX6.out 3; have hz4 := (blk_cell HX6.out 4).trans rfl; have hf4 := blk_frozen HX6.out 4; have hz5 := (blk_cell HX6.out 5).trans rfl; have hf5 := blk_frozen HX6.out 5) | ((with_reducible refine gate_store (t := 31) (p := 20) rfl ?_); refine store_event (w1 := ((((((w6.setCell ⟨gq, 0, none⟩ (.slice Ag g.length cg)).setCell ⟨gq, 1, none⟩ (.slice A2 l2.length c2)).setCell ⟨gq, 2, none⟩ (.slice A3 l3.length c3)).setCell ⟨gq, 3, none⟩ (.int .u64 a4)).setCell ⟨gq, 4, none⟩ (.bool (mOf a6))).setCell ⟨gq, 5, none⟩ (.bool (bOf a6)))) rfl rfl rfl ?hr ?_; (case hr => first | (go_simp; done) | (go_simp; rfl)); intro w7 hS; have HX7 : Aside0 (w7.heap[gq]? = some (.cells #[.slice Ag g.length cg, .slice A2 l2.length c2, .slice A3 l3.length c3, .int .u64 a4, .bool (mOf a6), .bool (bOf a6)] 31 (0, 0))) := ⟨by rw [hS]; exact (blk_put (cs := #[.slice Ag g.length cg, .slice A2 l2.length c2, .slice A3 l3.length c3, .int .u64 a4, .bool (mOf a6), .bool false]) (blk_put (cs := #[.slice Ag g.length cg, .slice A2 l2.length c2, .slice A3 l3.length c3, .int .u64 a4, .bool false, .bool false]) (blk_put (cs := #[.slice Ag g.length cg, .slice A2 l2.length c2, .slice A3 l3.length c3, .int .u64 0, .bool false, .bool false]) (blk_put (cs := #[.slice Ag g.length cg, .slice A2 l2.length c2, .slice none 0 0, .int .u64 0, .bool false, .bool false]) (blk_put (cs := #[.slice Ag g.length cg, .slice none 0 0, .slice none 0 0, .int .u64 0, .bool false, .bool false]) (blk_put (cs := #[.slice none 0 0, .slice none 0 0, .slice none 0 0, .int .u64 0, .bool false, .bool false]) HX6.out 0 (.slice Ag g.length cg) rfl) 1 (.slice A2 l2.length c2) rfl) 2 (.slice A3 l3.length c3) rfl) 3 (.int .u64 a4) rfl) 4 (.bool (mOf a6)) rfl) 5 (.bool (bOf a6)) rfl)⟩; have HB57 : Aside0 (Below w5.heap.size w5 w7) := ⟨by rw [hS]; exact (below_set (below_set (below_set (below_set (below_set (below_set HB56.out HGQ.out) HGQ.out) HGQ.out) HGQ.out) HGQ.out) HGQ.out)⟩; clear hS hz0 hf0 hz1 hf1 hz2 hf2 hz3 hf3 hz4 hf4 hz5 hf5; have hy3 := (blk_cell (blk_below HX5.out HB57.out) 3).trans rfl; have hz3 := (blk_cell HX7.out 3).trans rfl; have hf3 := blk_frozen HX7.out 3) | ((with_reducible refine gate_store (t := 24) (p := 54) rfl ?_); refine store_event (w1 := (w7.setCell ⟨gq, 3, none⟩ (.int .u64 (Go.bits .or .u64 a4 a5)))) rfl rfl rfl ?hr ?_; (case hr => first | (go_simp; done) | (go_simp; rfl)); intro w8 hS; have HX8 : Aside0 (w8.heap[gq]? = some (.cells #[.slice Ag g.length cg, .slice A2 l2.length c2, .slice A3 l3.length c3, .int .u64 (Go.bits .or .u64 a4 a5), .bool (mOf a6), .bool (bOf a6)] 31 (0, 0))) := ⟨by rw [hS]; exact blk_put (cs := #[.slice Ag g.length cg, .slice A2 l2.length c2, .slice A3 l3.length c3, .int .u64 a4, .bool (mOf a6), .bool (bOf a6)]) HX7.out 3 _ rfl⟩; have HB58 : Aside0 (Below w5.heap.size w5 w8) := ⟨by rw [hS]; exact below_set HB57.out HGQ.out⟩; clear hS hy3 hz3 hf3; have hz1 := (blk_cell HX8.out 1).trans rfl; have hf1 := blk_frozen HX8.out 1) | ((with_reducible refine gate_store (t := 23) (p := 55) rfl ?_); refine store_event (w1 := (w8.setCell ⟨gq, 1, none⟩ (.slice none 0 0))) rfl rfl rfl ?hr ?_; (case hr => first | (go_simp; done) | (go_simp; rfl)); intro w9 hS; have HX9 : Aside0 (w9.heap[gq]? = some (.cells #[.slice Ag g.length cg, .slice none 0 0, .slice A3 l3.length c3, .int .u64 (Go.bits .or .u64 a4 a5), .bool (mOf a6), .bool (bOf a6)] 31 (0, 0))) := ⟨by rw [hS]; exact blk_put (cs := #[.slice Ag g.length cg, .slice A2 l2.length c2, .slice A3 l3.length c3, .int .u64 (Go.bits .or .u64 a4 a5), .bool (mOf a6), .bool (bOf a6)]) HX8.out 1 _ rfl⟩; have HB59 : Aside0 (Below w5.heap.size w5 w9) := ⟨by rw [hS]; exact below_set HB58.out HGQ.out⟩; clear hS hz1 hf1; have hz1 := (blk_cell HX9.out 1).trans rfl) | ((with_reducible refine gate_builtin (b := .append) (xs := #[.tmp 57, .tmp 58]) rfl ?_); at_builtin; refine Kd.R_append_rows (Kd.int .u64) (w0 := w9) w9.heap.size rfl (.tmp 57) (.tmp 58) 23 24 (.int .u64 0) 8 rfl Try.underlying23 info24 rfl (by decide) (by omega) (.slice none 0 0) ([] : List Int) l2 _ _ _ (fun _ => True) (fun _ => False) rfl rfl ?aO ?aR (fun _ _ h => h) (fun _ h => h.elim) ?aF ?aB ?aS ?aL ?_; (case aO => exact Kd.R_nil _ _ _ _ _); (case aR => exact Kd.C_below HR2.out (below_step HB5.out HB59.out)); (case aF => exact (fun _ _ => trivial)); (case aB => exact Below.refl _ _); (case aS => exact Nat.le_refl _); (case aL => simp; omega); intro vn wa ho hb hg hat; rw [List.nil_append] at ho; obtain ⟨An, cn, en⟩ := Kd.R_slice ho; subst en; have HO := Aside0.mk ho; have HXa := Aside0.mk (blk_below HX9.out hb); have HB5a := Aside0.mk (below_step HB59.out hb); have HGA := Aside0.mk (show gq < w9.heap.size from blk_lt HX9.out); clear ho hb hg hat hz1; have hz1 := (blk_cell HXa.out 1).trans rfl; have hf1 := blk_frozen HXa.out 1) | ((with_reducible refine gate_store (t := 23) (p := 60) rfl ?_); refine store_event (w1 := (wa.setCell ⟨gq, 1, none⟩ (.slice An l2.length cn))) rfl rfl rfl ?hr ?_; (case hr => first | (go_simp; done) | (go_simp; rfl)); intro wb hS; have HXb : Aside0 (wb.heap[gq]? = some (.cells #[.slice Ag g.length cg, .slice An l2.length cn, .slice A3 l3.length c3, .int .u64 (Go.bits .or .u64 a4 a5), .bool (mOf a6), .bool (bOf a6)] 31 (0, 0))) := ⟨by rw [hS]; exact blk_put (cs := #[.slice Ag g.length cg, .slice none 0 0, .slice A3 l3.length c3, .int .u64 (Go.bits .or .u64 a4 a5), .bool (mOf a6), .bool (bOf a6)]) HXa.out 1 _ rfl⟩; have HB5b : Aside0 (Below w5.heap.size w5 wb) := ⟨by rw [hS]; exact below_set HB5a.out HGQ.out⟩; have HOb : Aside0 (Kd.R (Kd.int .u64) 24 wb w9.heap.size (fun _ => True) (.slice An l2.length cn) l2) := ⟨by rw [hS]; exact Kd.R_mono (Kd.R_far (p := ⟨gq, 1, none⟩) (Kd.R_mono (Kd.R_bound HO.out) (fun k hk => (show k ≠ gq by have h1 := hk.2.1; have h2 := HGA.out; omega))) (fun _ hk => hk) _) (fun _ _ => trivial)⟩; clear hS hz1 hf1 HO; have hz0 := (blk_cell HXb.out 0).trans rfl; have hz1 := (blk_cell HXb.out 1).trans rfl; have hz2 := (blk_cell HXb.out 2).trans rfl; have hz3 := (blk_cell HXb.out 3).trans rfl; have hz4 := (blk_cell HXb.out 4).trans rfl; have hz5 := (blk_cell HXb.out 5).trans rfl) | (go_at_call 10; refine (SOLV.out _ Ag cg _ cn (Kd.C_below HRG.out (below_step HB25.out HB5b.out)) HCG.out (by rw [HG2.out]; exact (Kd.R_reads' HOb.out).2.2) (Kd.R_reads' HOb.out).2.1 (Kd.C_below HR3.out (below_step HB5.out HB5b.out))).mono ?_; rintro e wc ⟨v2, v3, rfl, h0, h1, hb⟩; obtain ⟨B2, d2_, e2⟩ := Kd.R_slice h0; obtain ⟨B3, d3_, e3⟩ := Kd.R_slice h1; subst e2 e3; have HQ2 := Aside0.mk (Kd.R_reads' h0).2.2; have HQ3 := Aside0.mk (Kd.R_reads' h1).2.2; have HB5c := Aside0.mk (below_step HB5b.out hb); clear h0 h1 hb; have n1 : ((r1.length : Int) != (t1.length : Int)) = false := bne_eq_false_iff_eq.2 (congrArg (fun n : Nat => (n : Int)) (HE.out.1.trans HE.out.2.2.1.symm)); have n2 : ((r2.length : Int) != (t2.length : Int)) = false := bne_eq_false_iff_eq.2 (congrArg (fun n : Nat => (n : Int)) (HE.out.2.1.trans HE.out.2.2.2.symm)); have n3 : ((r1.length : Int) != (r2.length : Int)) = false := bne_eq_false_iff_eq.2 (congrArg (fun n : Nat => (n : Int)) (HE.out.1.trans HE.out.2.1.symm)); have n1n : (r1.length == t1.length) = true := beq_iff_eq.2 (HE.out.1.trans HE.out.2.2.1.symm); have n2n : (r2.length == t2.length) = true := beq_iff_eq.2 (HE.out.2.1.trans HE.out.2.2.2.symm); have n3n : (r1.length == r2.length) = true := beq_iff_eq.2 (HE.out.1.trans HE.out.2.1.symm)))
    have HW := Aside0.mk (Below.refl wc.heap.size wc)
    have hm := Kd.C_max HQ0.out
    go_loopw [23] (fun v23 wr => ∃ j : Nat, j ≤ r1.length ∧ v23 = .int .i64 (j : Int) ∧ Aside0 (Below wc.heap.size wc wr)) (fun v23 _ => r1.length - (intOf v23).toNat)
    case atStart => exact ⟨0, Nat.zero_le _, rfl, HW⟩
    case round =>
      clear HW
      obtain ⟨j, hj, rfl, HW⟩ := hrel
      by_cases hlt : j < r1.length
      · have hR : Go.bits .andNot .u64 (rd r1 (j : Int)) (rd t1 (j : Int)) = 0 ∧ Go.bits .andNot .u64 (rd r2 (j : Int)) (rd t2 (j : Int)) = 0 := by simpa using HR.out j (List.mem_range.2 hlt)
        have HE_ := HE.out
        have HB6 := Aside0.mk (below_step HB5c.out HW.out)
        obtain ⟨x0, q0, hx0⟩ := Kd.at_int (Kd.C_below HQ0.out HB6.out) (j : Int) (by omega) (by omega)
        obtain ⟨x1, q1, hx1⟩ := Kd.at_int (Kd.C_below HQ1.out HB6.out) (j : Int) (by omega) (by omega)
        obtain ⟨x2, q2, hx2⟩ := Kd.at_int (Kd.C_below HQ2.out HW.out) (j : Int) (by omega) (by omega)
        obtain ⟨x3, q3, hx3⟩ := Kd.at_int (Kd.C_below HQ3.out HW.out) (j : Int) (by omega) (by omega)
        subst q0 q1 q2 q3
        rw [Int.toNat_natCast] at hx0 hx1 hx2 hx3
        have pj0 := eq_true (show (0 : Int) ≤ (j : Int) by omega)
        have pj1 := eq_true (show (j : Int) < (r1.length : Int) by omega)
        have pj2 := eq_true (show (j : Int) < (r2.length : Int) by omega)
        have pj3 := eq_true (show (j : Int) < (t1.length : Int) by omega)
        have pj4 := eq_true (show (j : Int) < (t2.length : Int) by omega)
        have pn1 := eq_true hlt
        have pn2 := eq_true (show j < r2.length by omega)
        have pn3 := eq_true (show j < t1.length by omega)
        have pn4 := eq_true (show j < t2.length by omega)
        have dn1 : decide (j < r1.length) = true := decide_eq_true hlt
        have dz1 : (Go.bits .andNot .u64 (rd r1 (j : Int)) (rd t1 (j : Int)) != 0) = false := bne_eq_false_iff_eq.2 hR.1
        have dz2 : (Go.bits .andNot .u64 (rd r2 (j : Int)) (rd t2 (j : Int)) != 0) = false := bne_eq_false_iff_eq.2 hR.2
        clear hR HE_
        go_wp2
        go_quiet (fail)
        try go_wp2
        go_roundw
        case rel => exact ⟨j + 1, by omega, by go_num, ⟨pw_below_drewN HW.out _⟩⟩
        case measure => simp [intOf]; omega
      · obtain rfl : j = r1.length := by omega
        go_wp2
        go_ret
        exact ⟨rfl, below_step HB5.out (below_step HB5c.out HW.out)⟩
  · have d0 : decide ((0 : Int) < (l2.length : Int)) = true := decide_eq_true (by omega)
    have d0n : decide (0 < l2.length) = true := decide_eq_true (by omega)
    obtain ⟨ix, hix⟩ : ∃ ix : Nat, Int.tmod a7 (l2.length : Int) = (ix : Int) := ⟨(Int.tmod a7 (l2.length : Int)).toNat, by have := Int.tmod_nonneg (l2.length : Int) H7.out.1; omega⟩
    have hixl : ix < l2.length := by have := Int.tmod_lt_of_pos a7 (show 0 < (l2.length : Int) by omega); omega
    have HG2 : Aside0 (gen2 l2 a5 a7 = l2.set ix (Go.bits .or .u64 (rd l2 (ix : Int)) a5)) := ⟨by unfold gen2; rw [if_neg (by omega), hix, Int.toNat_natCast]⟩
    have HB0 := Aside0.mk b0
    have HIX := Aside0.mk hixl
    clear b0 hixl
    go_enter Try.func6, Try.ntmps6
    go_wp2_with (first | (go_at_call 8; (with_reducible refine (interlocklaw13_known.calls k true _ HK.out).mono ?_); rintro e w1 ⟨rfl, hb⟩; have HB1 := Aside0.mk hb; clear hb) | (go_at_call 12; refine (prob_any k a0 A1 c1 l1 A2 A3 l2.length c2 l3.length c3 a4 a6 g _ (Kd.C_below HR1.out HB1.out) HC1.out HG.out).mono ?_; rintro e w2 ⟨Ag, cg, rfl, hcg, hrg, hb⟩; have HCG := Aside0.mk hcg; have HRG := Aside0.mk hrg; have HB2 := Aside0.mk (below_step HB1.out hb); clear hcg hrg hb) | ((with_reducible refine gate_dst (N := 17) rfl ?_); refine box_event ?hg (N := 17) ?hd (cs := #[.slice none 0 0, .slice none 0 0, .slice none 0 0, .int .u64 0, .bool false, .bool false]) (t := 31) ?hr ?_; (case hd => rfl); (case hg => rfl); (case hr => first | (go_simp; done) | (go_simp; rfl)); intro gb hg w3 hbox hb; have HX := Aside0.mk hbox; have HB23 := Aside0.mk hb; have HB3 := Aside0.mk (below_step HB2.out hb); have HGL := Aside0.mk (show w2.heap.size ≤ gb by rw [hg]; exact Nat.le_refl _); have HGE := Aside0.mk (Nat.le_trans (below_size HB2.out) HGL.out); clear hg hbox hb; have hz0 := (blk_cell HX.out 0).trans rfl; have hf0 := blk_frozen HX.out 0; have hz1 := (blk_cell HX.out 1).trans rfl; have hf1 := blk_frozen HX.out 1; have hz2 := (blk_cell HX.out 2).trans rfl; have hf2 := blk_frozen HX.out 2; have hz3 := (blk_cell HX.out 3).trans rfl; have hf3 := blk_frozen HX.out 3; have hz4 := (blk_cell HX.out 4).trans rfl; have hf4 := blk_frozen HX.out 4; have hz5 := (blk_cell HX.out 5).trans rfl; have hf5 := blk_frozen HX.out 5) | ((with_reducible refine gate_store (t := 31) (p := 17) rfl ?_); refine store_event (w1 := ((((((w3.setCell ⟨gb, 0, none⟩ (.slice Ag g.length cg)).setCell ⟨gb, 1, none⟩ (.slice A2 l2.length c2)).setCell ⟨gb, 2, none⟩ (.slice A3 l3.length c3)).setCell ⟨gb, 3, none⟩ (.int .u64 a4)).setCell ⟨gb, 4, none⟩ (.bool (mOf a6))).setCell ⟨gb, 5, none⟩ (.bool (bOf a6)))) rfl rfl rfl ?hr ?_; (case hr => first | (go_simp; done) | (go_simp; rfl)); intro w4 hS; have HX4 : Aside0 (w4.heap[gb]? = some (.cells #[.slice Ag g.length cg, .slice A2 l2.length c2, .slice A3 l3.length c3, .int .u64 a4, .bool (mOf a6), .bool (bOf a6)] 31 (0, 0))) := ⟨by rw [hS]; exact (blk_put (cs := #[.slice Ag g.length cg, .slice A2 l2.length c2, .slice A3 l3.length c3, .int .u64 a4, .bool (mOf a6), .bool false]) (blk_put (cs := #[.slice Ag g.length cg, .slice A2 l2.length c2, .slice A3 l3.length c3, .int .u64 a4, .bool false, .bool false]) (blk_put (cs := #[.slice Ag g.length cg, .slice A2 l2.length c2, .slice A3 l3.length c3, .int .u64 0, .bool false, .bool false]) (blk_put (cs := #[.slice Ag g.length cg, .slice A2 l2.length c2, .slice none 0 0, .int .u64 0, .bool false, .bool false]) (blk_put (cs := #[.slice Ag g.length cg, .slice none 0 0, .slice none 0 0, .int .u64 0, .bool false, .bool false]) (blk_put (cs := #[.slice none 0 0, .slice none 0 0, .slice none 0 0, .int .u64 0, .bool false, .bool false]) HX.out 0 (.slice Ag g.length cg) rfl) 1 (.slice A2 l2.length c2) rfl) 2 (.slice A3 l3.length c3) rfl) 3 (.int .u64 a4) rfl) 4 (.bool (mOf a6)) rfl) 5 (.bool (bOf a6)) rfl)⟩; have HB4 : Aside0 (Below w.heap.size w w4) := ⟨by rw [hS]; exact (below_set (below_set (below_set (below_set (below_set (below_set HB3.out HGE.out) HGE.out) HGE.out) HGE.out) HGE.out) HGE.out)⟩; have HB24 : Aside0 (Below w2.heap.size w2 w4) := ⟨by rw [hS]; exact (below_set (below_set (below_set (below_set (below_set (below_set HB23.out HGL.out) HGL.out) HGL.out) HGL.out) HGL.out) HGL.out)⟩; clear hS hz0 hf0 hz1 hf1 hz2 hf2 hz3 hf3 hz4 hf4 hz5 hf5; have hy0 := (blk_cell HX4.out 0).trans rfl; have hy1 := (blk_cell HX4.out 1).trans rfl; have hy2 := (blk_cell HX4.out 2).trans rfl; have hy3 := (blk_cell HX4.out 3).trans rfl; have hy4 := (blk_cell HX4.out 4).trans rfl; have hy5 := (blk_cell HX4.out 5).trans rfl) | (go_at_call 10; refine (flow_Solve.calls k Ag cg g A2 c2 l2 A3 c3 l3 a4 (mOf a6) (bOf a6) r1 r2 _ (Kd.C_below HRG.out HB24.out) HCG.out (Kd.C_below HR2.out HB4.out) HC2.out (Kd.C_below HR3.out HB4.out) HC3.out HS.out).mono ?_; rintro e w5 ⟨v0, v1, rfl, h0, h1, hb⟩; obtain ⟨B0, d0, e0⟩ := Kd.R_slice h0; obtain ⟨B1, d1, e1⟩ := Kd.R_slice h1; subst e0 e1; have HQ0 := Aside0.mk (Kd.R_reads' h0).2.2; have HQ1 := Aside0.mk (Kd.R_reads' h1).2.2; have HX5 := Aside0.mk (blk_below HX4.out hb); have HB5 := Aside0.mk (below_step HB4.out hb); have HB25 := Aside0.mk (below_step HB24.out hb); clear h0 h1 hb hy0 hy1 hy2 hy3 hy4 hy5; have hy0 := (blk_cell HX5.out 0).trans rfl; have hy1 := (blk_cell HX5.out 1).trans rfl; have hy2 := (blk_cell HX5.out 2).trans rfl; have hy3 := (blk_cell HX5.out 3).trans rfl; have hy4 := (blk_cell HX5.out 4).trans rfl; have hy5 := (blk_cell HX5.out 5).trans rfl) | ((with_reducible refine gate_dst (N := 20) rfl ?_); refine box_event ?hg (N := 20) ?hd (cs := #[.slice none 0 0, .slice none 0 0, .slice none 0 0, .int .u64 0, .bool false, .bool false]) (t := 31) ?hr ?_; (case hd => rfl); (case hg => rfl); (case hr => first | (go_simp; done) | (go_simp; rfl)); intro gq hg w6 hbox hb; have HX6 := Aside0.mk hbox; have HB56 := Aside0.mk hb; have HGQ := Aside0.mk (show w5.heap.size ≤ gq by rw [hg]; exact Nat.le_refl _); have HY6 := Aside0.mk (blk_below HX5.out hb); clear hg hbox hb hy0 hy1 hy2 hy3 hy4 hy5; have hz0 := (blk_cell HX6.out 0).trans rfl; have hf0 := blk_frozen HX6.out 0; have hz1 := (blk_cell HX6.out 1).trans rfl; have hf1 := blk_frozen HX6.out 1; have hz2 := (blk_cell HX6.out 2).trans rfl; have hf2 := blk_frozen HX6.out 2; have hz3 := (blk_cell HX6.out 3).trans rfl; have hf3 := blk_frozen HX6.out 3; have hz4 := (blk_cell HX6.out 4).trans rfl; have hf4 := blk_frozen HX6.out 4; have hz5 := (blk_cell HX6.out 5).trans rfl; have hf5 := blk_frozen HX6.out 5) | ((with_reducible refine gate_store (t := 31) (p := 20) rfl ?_); refine store_event (w1 := ((((((w6.setCell ⟨gq, 0, none⟩ (.slice Ag g.length cg)).setCell ⟨gq, 1, none⟩ (.slice A2 l2.length c2)).setCell ⟨gq, 2, none⟩ (.slice A3 l3.length c3)).setCell ⟨gq, 3, none⟩ (.int .u64 a4)).setCell ⟨gq, 4, none⟩ (.bool (mOf a6))).setCell ⟨gq, 5, none⟩ (.bool (bOf a6)))) rfl rfl rfl ?hr ?_; (case hr => first | (go_simp; done) | (go_simp; rfl)); intro w7 hS; have HX7 : Aside0 (w7.heap[gq]? = some (.cells #[.slice Ag g.length cg, .slice A2 l2.length c2, .slice A3 l3.length c3, .int .u64 a4, .bool (mOf a6), .bool (bOf a6)] 31 (0, 0))) := ⟨by rw [hS]; exact (blk_put (cs := #[.slice Ag g.length cg, .slice A2 l2.length c2, .slice A3 l3.length c3, .int .u64 a4, .bool (mOf a6), .bool false]) (blk_put (cs := #[.slice Ag g.length cg, .slice A2 l2.length c2, .slice A3 l3.length c3, .int .u64 a4, .bool false, .bool false]) (blk_put (cs := #[.slice Ag g.length cg, .slice A2 l2.length c2, .slice A3 l3.length c3, .int .u64 0, .bool false, .bool false]) (blk_put (cs := #[.slice Ag g.length cg, .slice A2 l2.length c2, .slice none 0 0, .int .u64 0, .bool false, .bool false]) (blk_put (cs := #[.slice Ag g.length cg, .slice none 0 0, .slice none 0 0, .int .u64 0, .bool false, .bool false]) (blk_put (cs := #[.slice none 0 0, .slice none 0 0, .slice none 0 0, .int .u64 0, .bool false, .bool false]) HX6.out 0 (.slice Ag g.length cg) rfl) 1 (.slice A2 l2.length c2) rfl) 2 (.slice A3 l3.length c3) rfl) 3 (.int .u64 a4) rfl) 4 (.bool (mOf a6)) rfl) 5 (.bool (bOf a6)) rfl)⟩; have HB57 : Aside0 (Below w5.heap.size w5 w7) := ⟨by rw [hS]; exact (below_set (below_set (below_set (below_set (below_set (below_set HB56.out HGQ.out) HGQ.out) HGQ.out) HGQ.out) HGQ.out) HGQ.out)⟩; clear hS hz0 hf0 hz1 hf1 hz2 hf2 hz3 hf3 hz4 hf4 hz5 hf5; have hy3 := (blk_cell (blk_below HX5.out HB57.out) 3).trans rfl; have hz3 := (blk_cell HX7.out 3).trans rfl; have hf3 := blk_frozen HX7.out 3) | ((with_reducible refine gate_store (t := 24) (p := 54) rfl ?_); refine store_event (w1 := (w7.setCell ⟨gq, 3, none⟩ (.int .u64 (Go.bits .or .u64 a4 a5)))) rfl rfl rfl ?hr ?_; (case hr => first | (go_simp; done) | (go_simp; rfl)); intro w8 hS; have HX8 : Aside0 (w8.heap[gq]? = some (.cells #[.slice Ag g.length cg, .slice A2 l2.length c2, .slice A3 l3.length c3, .int .u64 (Go.bits .or .u64 a4 a5), .bool (mOf a6), .bool (bOf a6)] 31 (0, 0))) := ⟨by rw [hS]; exact blk_put (cs := #[.slice Ag g.length cg, .slice A2 l2.length c2, .slice A3 l3.length c3, .int .u64 a4, .bool (mOf a6), .bool (bOf a6)]) HX7.out 3 _ rfl⟩; have HB58 : Aside0 (Below w5.heap.size w5 w8) := ⟨by rw [hS]; exact below_set HB57.out HGQ.out⟩; clear hS hy3 hz3 hf3; have hz1 := (blk_cell HX8.out 1).trans rfl; have hf1 := blk_frozen HX8.out 1) | ((with_reducible refine gate_store (t := 23) (p := 55) rfl ?_); refine store_event (w1 := (w8.setCell ⟨gq, 1, none⟩ (.slice none 0 0))) rfl rfl rfl ?hr ?_; (case hr => first | (go_simp; done) | (go_simp; rfl)); intro w9 hS; have HX9 : Aside0 (w9.heap[gq]? = some (.cells #[.slice Ag g.length cg, .slice none 0 0, .slice A3 l3.length c3, .int .u64 (Go.bits .or .u64 a4 a5), .bool (mOf a6), .bool (bOf a6)] 31 (0, 0))) := ⟨by rw [hS]; exact blk_put (cs := #[.slice Ag g.length cg, .slice A2 l2.length c2, .slice A3 l3.length c3, .int .u64 (Go.bits .or .u64 a4 a5), .bool (mOf a6), .bool (bOf a6)]) HX8.out 1 _ rfl⟩; have HB59 : Aside0 (Below w5.heap.size w5 w9) := ⟨by rw [hS]; exact below_set HB58.out HGQ.out⟩; clear hS hz1 hf1; have hz1 := (blk_cell HX9.out 1).trans rfl) | ((with_reducible refine gate_builtin (b := .append) (xs := #[.tmp 57, .tmp 58]) rfl ?_); at_builtin; refine Kd.R_append_rows (Kd.int .u64) (w0 := w9) w9.heap.size rfl (.tmp 57) (.tmp 58) 23 24 (.int .u64 0) 8 rfl Try.underlying23 info24 rfl (by decide) (by omega) (.slice none 0 0) ([] : List Int) l2 _ _ _ (fun _ => True) (fun _ => False) rfl rfl ?aO ?aR (fun _ _ h => h) (fun _ h => h.elim) ?aF ?aB ?aS ?aL ?_; (case aO => exact Kd.R_nil _ _ _ _ _); (case aR => exact Kd.C_below HR2.out (below_step HB5.out HB59.out)); (case aF => exact (fun _ _ => trivial)); (case aB => exact Below.refl _ _); (case aS => exact Nat.le_refl _); (case aL => simp; omega); intro vn wa ho hb hg hat; rw [List.nil_append] at ho; obtain ⟨An, cn, en⟩ := Kd.R_slice ho; subst en; have HO := Aside0.mk ho; have HXa := Aside0.mk (blk_below HX9.out hb); have HB5a := Aside0.mk (below_step HB59.out hb); have HGA := Aside0.mk (show gq < w9.heap.size from blk_lt HX9.out); clear ho hb hg hat hz1; have hz1 := (blk_cell HXa.out 1).trans rfl; have hf1 := blk_frozen HXa.out 1) | ((with_reducible refine gate_store (t := 23) (p := 60) rfl ?_); refine store_event (w1 := (wa.setCell ⟨gq, 1, none⟩ (.slice An l2.length cn))) rfl rfl rfl ?hr ?_; (case hr => first | (go_simp; done) | (go_simp; rfl)); intro wb hS; have HXb : Aside0 (wb.heap[gq]? = some (.cells #[.slice Ag g.length cg, .slice An l2.length cn, .slice A3 l3.length c3, .int .u64 (Go.bits .or .u64 a4 a5), .bool (mOf a6), .bool (bOf a6)] 31 (0, 0))) := ⟨by rw [hS]; exact blk_put (cs := #[.slice Ag g.length cg, .slice none 0 0, .slice A3 l3.length c3, .int .u64 (Go.bits .or .u64 a4 a5), .bool (mOf a6), .bool (bOf a6)]) HXa.out 1 _ rfl⟩; have HB5b : Aside0 (Below w5.heap.size w5 wb) := ⟨by rw [hS]; exact below_set HB5a.out HGQ.out⟩; have HOb : Aside0 (Kd.R (Kd.int .u64) 24 wb w9.heap.size (fun _ => True) (.slice An l2.length cn) l2) := ⟨by rw [hS]; exact Kd.R_mono (Kd.R_far (p := ⟨gq, 1, none⟩) (Kd.R_mono (Kd.R_bound HO.out) (fun k hk => (show k ≠ gq by have h1 := hk.2.1; have h2 := HGA.out; omega))) (fun _ hk => hk) _) (fun _ _ => trivial)⟩; clear hS hz1 hf1 HO; have hz0 := (blk_cell HXb.out 0).trans rfl; have hz1 := (blk_cell HXb.out 1).trans rfl; have hz2 := (blk_cell HXb.out 2).trans rfl; have hz3 := (blk_cell HXb.out 3).trans rfl; have hz4 := (blk_cell HXb.out 4).trans rfl; have hz5 := (blk_cell HXb.out 5).trans rfl))
    obtain ⟨gn, cn', en, hgn, _⟩ := Kd.R_form HOb.out HB0.out
    have aN : An = some ⟨gn, 0, none⟩ := by injection en
    clear en
    subst aN
    have HGN := Aside0.mk hgn
    have HNE : Aside0 (gq ≠ gn) := ⟨by have h1 := HGA.out; have h2 := HGN.out; omega⟩
    have HGN5 : Aside0 (w5.heap.size ≤ gn) := ⟨by have h1 := HGA.out; have h2 := HGN.out; have h3 := HGQ.out; omega⟩
    have HD1 := Aside0.mk hz1
    have HE1 := Aside0.mk (Kd.R_celln 0 HOb.out (ix : Int) (by omega) (by have := HIX.out; omega)).1
    have h7w : wrap64 a7 = a7 := by have := H7.out; unfold wrap64; omega
    have h7w' : IntKind.i64.wrap a7 = a7 := (i64_w _).trans h7w
    have z0 : ((l2.length : Int) == 0) = false := beq_eq_false_iff_ne.2 (by have := HB0.out; omega)
    have z0n : (l2.length == 0) = false := beq_eq_false_iff_ne.2 (by have := HB0.out; omega)
    have z1n : ¬ l2.length = 0 := by have := HB0.out; omega
    have px0 := eq_true (show (0 : Int) ≤ (ix : Int) by omega)
    have px1 := eq_true (show (ix : Int) < (l2.length : Int) by have := HIX.out; omega)
    have px2 := eq_true HIX.out
    clear hz0 hz1 hz2 hz3 hz4 hz5 hgn
    refine start_ (n := 13) (S := fun w' => Below wb.heap.size wb w') (ds := [12]) #[false, false, false, false, false, false, false, false, false, false, false, false, false] (by kernel_rfl) rfl rfl (below_drew (Below.refl _ _)) (fun hHeld => ?_)
    refine with_tab moreT10 (fun HT_ => ?_)
    generalize wb.drew = wq at hHeld ⊢
    refine pure_ (i := 0) (N := some 64) (v := ?_) (a' := ?_) #[true, false, false, false, false, false, false, false, false, false, false, false, false] rfl rfl (any_of HT_.out (by kernel_rfl)) (fun _ _ _ h => h) (Or.inl ⟨by rfl, ?_⟩) ?_ ?_
    rotate_left
    · intro w'
      go_simp
      with_reducible rfl
    rotate_left
    · (try simp only [Act.put, sT_, sZ_, sS_, i64_w, i32_w, u8q_]); rfl
    refine take_ (i := 1) (N := some 65) (v := ?_) (a' := ?_) #[true, true, false, false, false, false, false, false, false, false, false, false, false] rfl rfl (take_of HT_.out (by kernel_rfl)) (fun _ _ _ h => h) (Or.inl ⟨by rfl, ?_⟩) hHeld ?_ ?_
    rotate_left
    · intro w' hS'
      have hy1 := pw_cell_below hS' HD1.out
      go_simp
      with_reducible rfl
    rotate_left
    · (try simp only [Act.put, sT_, sZ_, sS_, i64_w, i32_w, u8q_]); rfl
    refine pure_ (i := 2) (N := some 66) (v := ?_) (a' := ?_) #[true, true, true, false, false, false, false, false, false, false, false, false, false] rfl rfl (any_of HT_.out (by kernel_rfl)) (fun _ _ _ h => h) (Or.inl ⟨by rfl, ?_⟩) ?_ ?_
    rotate_left
    · intro w'
      go_simp
      with_reducible rfl
    rotate_left
    · (try simp only [Act.put, sT_, sZ_, sS_, i64_w, i32_w, u8q_]); rfl
    refine pure_ (i := 3) (N := some 67) (v := ?_) (a' := ?_) #[true, true, true, true, false, false, false, false, false, false, false, false, false] rfl rfl (any_of HT_.out (by kernel_rfl)) (fun _ _ _ h => h) (Or.inl ⟨by rfl, ?_⟩) ?_ ?_
    rotate_left
    · intro w'
      go_simp
      with_reducible rfl
    rotate_left
    · (try simp only [Act.put, sT_, sZ_, sS_, i64_w, i32_w, u8q_]); rfl
    refine pure_ (i := 4) (N := some 68) (v := ?_) (a' := ?_) #[true, true, true, true, true, false, false, false, false, false, false, false, false] rfl rfl (any_of HT_.out (by kernel_rfl)) (fun _ _ _ h => h) (Or.inl ⟨by rfl, ?_⟩) ?_ ?_
    rotate_left
    · intro w'
      go_simp
      with_reducible rfl
    rotate_left
    · (try simp only [Act.put, sT_, sZ_, sS_, i64_w, i32_w, u8q_]); rfl
    refine pure_ (i := 5) (N := some 69) (v := ?_) (a' := ?_) #[true, true, true, true, true, true, false, false, false, false, false, false, false] rfl rfl (any_of HT_.out (by kernel_rfl)) (fun _ _ _ h => h) (Or.inl ⟨by rfl, ?_⟩) ?_ ?_
    rotate_left
    · intro w'
      go_simp
      with_reducible rfl
    rotate_left
    · (try simp only [Act.put, sT_, sZ_, sS_, i64_w, i32_w, u8q_]); rfl
    refine pure_ (i := 6) (N := some 70) (v := ?_) (a' := ?_) #[true, true, true, true, true, true, true, false, false, false, false, false, false] rfl rfl (any_of HT_.out (by kernel_rfl)) (fun _ _ _ h => h) (Or.inl ⟨by rfl, ?_⟩) ?_ ?_
    rotate_left
    · intro w'
      go_simp
      with_reducible rfl
    rotate_left
    · (try simp only [Act.put, sT_, sZ_, sS_, i64_w, i32_w, u8q_]); rfl
    refine pure_ (i := 7) (N := some 71) (v := ?_) (a' := ?_) #[true, true, true, true, true, true, true, true, false, false, false, false, false] rfl rfl (any_of HT_.out (by kernel_rfl)) (fun _ _ _ h => h) (Or.inl ⟨by rfl, ?_⟩) ?_ ?_
    rotate_left
    · intro w'
      go_simp
      with_reducible rfl
    rotate_left
    · (try simp only [Act.put, sT_, sZ_, sS_, i64_w, i32_w, u8q_]); rfl
    refine take_ (i := 8) (N := some 72) (v := ?_) (a' := ?_) #[true, true, true, true, true, true, true, true, true, false, false, false, false] rfl rfl (take_of HT_.out (by kernel_rfl)) (fun _ _ _ h => h) (Or.inl ⟨by rfl, ?_⟩) hHeld ?_ ?_
    rotate_left
    · intro w' hS'
      have hy1 := pw_cell_below hS' HE1.out
      rw [Int.toNat_natCast] at hy1
      go_simp
      with_reducible rfl
    rotate_left
    · (try simp only [Act.put, sT_, sZ_, sS_, i64_w, i32_w, u8q_]); rfl
    refine pure_ (i := 9) (N := some 73) (v := ?_) (a' := ?_) #[true, true, true, true, true, true, true, true, true, true, false, false, false] rfl rfl (any_of HT_.out (by kernel_rfl)) (fun _ _ _ h => h) (Or.inl ⟨by rfl, ?_⟩) ?_ ?_
    rotate_left
    · intro w'
      go_simp
      with_reducible rfl
    rotate_left
    · (try simp only [Act.put, sT_, sZ_, sS_, i64_w, i32_w, u8q_]); rfl
    refine pure_ (i := 10) (N := some 74) (v := ?_) (a' := ?_) #[true, true, true, true, true, true, true, true, true, true, true, false, false] rfl rfl (any_of HT_.out (by kernel_rfl)) (fun _ _ _ h => h) (Or.inl ⟨by rfl, ?_⟩) ?_ ?_
    rotate_left
    · intro w'
      go_simp
      with_reducible rfl
    rotate_left
    · (try simp only [Act.put, sT_, sZ_, sS_, i64_w, i32_w, u8q_]); rfl
    refine pure_ (i := 11) (N := some 75) (v := ?_) (a' := ?_) #[true, true, true, true, true, true, true, true, true, true, true, true, false] rfl rfl (any_of HT_.out (by kernel_rfl)) (fun _ _ _ h => h) (Or.inl ⟨by rfl, ?_⟩) ?_ ?_
    rotate_left
    · intro w'
      go_simp
      with_reducible rfl
    rotate_left
    · (try simp only [Act.put, sT_, sZ_, sS_, i64_w, i32_w, u8q_]); rfl
    refine last_ (i := 12) (N := none) #[true, true, true, true, true, true, true, true, true, true, true, true, true] rfl rfl (one_of HT_.out (by kernel_rfl)) (by decide) (fun K hK => ?_)
    obtain ⟨hx0, hf0⟩ := Kd.R_celln 0 (Kd.R_below HOb.out hHeld) (ix : Int) (by omega) (by have := HIX.out; omega)
    rw [Int.toNat_natCast] at hx0 hf0
    refine skip_ (w1 := (wq.setCell ⟨gn, ix, none⟩ (.int .u64 (Go.bits .or .u64 (rd l2 (ix : Int)) a5)))) (by rfl) rfl ?hr ?_
    case hr => go_simp; try rfl
    clear hx0 hf0
    have HPG := (Kd.R_putg (Kd.R_below HOb.out hHeld) (ix : Int) (Go.bits .or .u64 (rd l2 (ix : Int)) a5)).1
    rw [Int.toNat_natCast] at HPG
    have HOg := Aside0.mk HPG
    clear HPG
    have HXn := Aside0.mk (blk_far (p := ⟨gn, ix, none⟩) (blk_below HXb.out hHeld) HNE.out (.int .u64 (Go.bits .or .u64 (rd l2 (ix : Int)) a5)))
    have HBn : Aside0 (Below w5.heap.size w5 (wq.setCell ⟨gn, ix, none⟩ (.int .u64 (Go.bits .or .u64 (rd l2 (ix : Int)) a5)))) := ⟨below_set (below_step HB5b.out hHeld) HGN5.out⟩
    generalize wq.setCell _ _ = wn at HOg HXn HBn ⊢
    clear HXb HB5b HOb
    have HB5b := HBn
    have hz0 := (blk_cell HXn.out 0).trans rfl
    have hz1 := (blk_cell HXn.out 1).trans rfl
    have hz2 := (blk_cell HXn.out 2).trans rfl
    have hz3 := (blk_cell HXn.out 3).trans rfl
    have hz4 := (blk_cell HXn.out 4).trans rfl
    have hz5 := (blk_cell HXn.out 5).trans rfl
    refine hK.out _ _ ?_
    clear hK K
    refine norm_ (a' := ?_) ?_ ?_
    rotate_left
    · rfl
    refine done_ (done_of HT_.out (by kernel_rfl)) ?_
    go_wp2_with (go_at_call 10; refine (SOLV.out _ Ag cg _ cn (Kd.C_below HRG.out (below_step HB25.out HB5b.out)) HCG.out (by have h := (Kd.R_reads' HOg.out).2.2; rw [List.length_set] at h; rw [HG2.out]; exact h) (Kd.R_reads' HOg.out).2.1 (Kd.C_below HR3.out (below_step HB5.out HB5b.out))).mono ?_; rintro e wc ⟨v2, v3, rfl, h0, h1, hb⟩; obtain ⟨B2, d2_, e2⟩ := Kd.R_slice h0; obtain ⟨B3, d3_, e3⟩ := Kd.R_slice h1; subst e2 e3; have HQ2 := Aside0.mk (Kd.R_reads' h0).2.2; have HQ3 := Aside0.mk (Kd.R_reads' h1).2.2; have HB5c := Aside0.mk (below_step HB5b.out hb); clear h0 h1 hb; have n1 : ((r1.length : Int) != (t1.length : Int)) = false := bne_eq_false_iff_eq.2 (congrArg (fun n : Nat => (n : Int)) (HE.out.1.trans HE.out.2.2.1.symm)); have n2 : ((r2.length : Int) != (t2.length : Int)) = false := bne_eq_false_iff_eq.2 (congrArg (fun n : Nat => (n : Int)) (HE.out.2.1.trans HE.out.2.2.2.symm)); have n3 : ((r1.length : Int) != (r2.length : Int)) = false := bne_eq_false_iff_eq.2 (congrArg (fun n : Nat => (n : Int)) (HE.out.1.trans HE.out.2.1.symm)); have n1n : (r1.length == t1.length) = true := beq_iff_eq.2 (HE.out.1.trans HE.out.2.2.1.symm); have n2n : (r2.length == t2.length) = true := beq_iff_eq.2 (HE.out.2.1.trans HE.out.2.2.2.symm); have n3n : (r1.length == r2.length) = true := beq_iff_eq.2 (HE.out.1.trans HE.out.2.1.symm))
    have HW := Aside0.mk (Below.refl wc.heap.size wc)
    have hm := Kd.C_max HQ0.out
    go_loopw [23] (fun v23 wr => ∃ j : Nat, j ≤ r1.length ∧ v23 = .int .i64 (j : Int) ∧ Aside0 (Below wc.heap.size wc wr)) (fun v23 _ => r1.length - (intOf v23).toNat)
    case atStart => exact ⟨0, Nat.zero_le _, rfl, HW⟩
    case round =>
      clear HW
      obtain ⟨j, hj, rfl, HW⟩ := hrel
      by_cases hlt : j < r1.length
      · have hR : Go.bits .andNot .u64 (rd r1 (j : Int)) (rd t1 (j : Int)) = 0 ∧ Go.bits .andNot .u64 (rd r2 (j : Int)) (rd t2 (j : Int)) = 0 := by simpa using HR.out j (List.mem_range.2 hlt)
        have HE_ := HE.out
        have HB6 := Aside0.mk (below_step HB5c.out HW.out)
        obtain ⟨x0, q0, hx0⟩ := Kd.at_int (Kd.C_below HQ0.out HB6.out) (j : Int) (by omega) (by omega)
        obtain ⟨x1, q1, hx1⟩ := Kd.at_int (Kd.C_below HQ1.out HB6.out) (j : Int) (by omega) (by omega)
        obtain ⟨x2, q2, hx2⟩ := Kd.at_int (Kd.C_below HQ2.out HW.out) (j : Int) (by omega) (by omega)
        obtain ⟨x3, q3, hx3⟩ := Kd.at_int (Kd.C_below HQ3.out HW.out) (j : Int) (by omega) (by omega)
        subst q0 q1 q2 q3
        rw [Int.toNat_natCast] at hx0 hx1 hx2 hx3
        have pj0 := eq_true (show (0 : Int) ≤ (j : Int) by omega)
        have pj1 := eq_true (show (j : Int) < (r1.length : Int) by omega)
        have pj2 := eq_true (show (j : Int) < (r2.length : Int) by omega)
        have pj3 := eq_true (show (j : Int) < (t1.length : Int) by omega)
        have pj4 := eq_true (show (j : Int) < (t2.length : Int) by omega)
        have pn1 := eq_true hlt
        have pn2 := eq_true (show j < r2.length by omega)
        have pn3 := eq_true (show j < t1.length by omega)
        have pn4 := eq_true (show j < t2.length by omega)
        have dn1 : decide (j < r1.length) = true := decide_eq_true hlt
        have dz1 : (Go.bits .andNot .u64 (rd r1 (j : Int)) (rd t1 (j : Int)) != 0) = false := bne_eq_false_iff_eq.2 hR.1
        have dz2 : (Go.bits .andNot .u64 (rd r2 (j : Int)) (rd t2 (j : Int)) != 0) = false := bne_eq_false_iff_eq.2 hR.2
        clear hR HE_
        go_wp2
        go_quiet (fail)
        try go_wp2
        go_roundw
        case rel => exact ⟨j + 1, by omega, by go_num, ⟨pw_below_drewN HW.out _⟩⟩
        case measure => simp [intOf]; omega
      · obtain rfl : j = r1.length := by omega
        go_wp2
        go_ret
        exact ⟨rfl, below_step HB5.out (below_step HB5c.out HW.out)⟩

end Go.Proofs.Ytfiemikganhgeaa.P
