import Derived.StillTailTactics
import Derived.Test.YticdodbnjlnjlaaV5
namespace Go.Proofs.Yticdodbnjlnjlaa.P
open Go.RowKit Go.Proofs.YticdodbnjlnjlaaW.PrintWords Go.Proofs.YticdodbnjlnjlaaW.PrintLast Go.Proofs.YticdodbnjlnjlaaW.PrintMore
attribute [local go_sem] max2_int min2_int max_two min_two max_three min_three max_four min_four
attribute [local irreducible] Calls
set_option linter.unusedVariables false
set_option linter.unusedSimpArgs false
theorem tailT63 : rtab .any (opsOf Try.f63 27) = (true, [([], []), ([], []), ([0, 0], [0]), ([1, 2, 0, 1, 2], [1]), ([3, 0, 1, 2, 3], [])]) := by kernel_rfl
set_option maxHeartbeats 16000000 in
set_option maxRecDepth 100000 in
theorem taken17 (P : PV) (g : Nat → Value) (ls : Nat → List Int) (vR vQ : Value) (nc n : Nat) (tr : Int) (a b c ep eo eb : Int) (w : World) (lo : Nat) (h : WF w lo g g ls vR vQ nc) (hlo : lo ≤ w.heap.size) (hok : okI n ls ⟨17, a, b, c⟩) (h2 : (ls 2).length = 4) (h8 : (ls 8).length = nc) (hC : P.vC.oneCell' = true) (hT : P.vT.oneCell' = true) :
    Calls Try.prog 63 #[.agg (sCells P g vR vQ tr), .int .i64 0, .agg (iCells ⟨17, a, b, c⟩), .agg (eCells ⟨0, ep, eo, eb, 0, 0⟩)] w (RetS w lo nc P (st ls 2 a (rd (ls 5) b)) (tr)) := by
  have HWS := am h
  have HLO := am hlo
  have HOK := am hok
  have H2 := am h2
  have H8 := am h8
  have HC := am hC
  have HT := am hT
  clear h hlo hok h2 h8 hC hT
  obtain ⟨rR, cR, eR⟩ : ∃ k c, vR = .slice (some ⟨k, 0, none⟩) 1 c := by
    obtain ⟨x, hr, _⟩ := HWS.out.r
    obtain ⟨k, c, e, _⟩ := outer_at hr 0 (Int.le_refl _) (by simp)
    exact ⟨k, c, e⟩
  obtain ⟨k2, c2, e2, _⟩ := HWS.out.at 2 0 (Int.le_refl _) (by rw [H2.out]; decide)
  rw [H2.out] at e2
  have HER := am eR
  have HE2 := am e2
  clear e2 eR
  obtain ⟨q0, q1⟩ := HOK.out.a2 (by simp)
  rw [H2.out] at q1
  replace q0 : 0 ≤ a := q0
  replace q1 : a < (4 : Int) := q1
  have HPa2 : Aside0 (0 ≤ a ∧ a < ((4 : Nat) : Int)) := ⟨⟨q0, q1⟩⟩
  have ta0 := eq_true q0
  have ta21 := eq_true q1
  clear q0 q1
  obtain ⟨q0, q1⟩ := HOK.out.t2 (by simp)
  replace q0 : 0 ≤ b := q0
  replace q1 : b < ((ls 5).length : Int) := q1
  obtain ⟨k5, c5, e5, _⟩ := HWS.out.at 5 b q0 q1
  have HE5 := am e5
  clear e5
  have HPb5 := am (And.intro q0 q1)
  have tb0 := eq_true q0
  have tb51 := eq_true q1
  clear q0 q1
  go_enter Try.func63, Try.ntmps63
  go_wp2_with (first | ((with_reducible refine gd 4 ?_); refine bx 4 (sCells P g vR vQ tr) 70 ?_; intro b4 q4g W1 q4x q4b) | ((with_reducible refine gd 6 ?_); refine bx 6 (iCells ⟨17, a, b, c⟩) 33 ?_; intro b6 q6g W2 q6x q6b) | ((with_reducible refine gd 7 ?_); refine bx 7 (eCells ⟨0, ep, eo, eb, 0, 0⟩) 75 ?_; intro b7 q7g W3 q7x q7b) | ((with_reducible refine gd 8 ?_); refine bx 8 (zCells) 70 ?_; intro b8 q8g W4 q8x q8b) | ((with_reducible refine gd 9 ?_); refine bx 9 (zE) 75 ?_; intro b9 q9g W q9x q9b; have HK := am (show KS w W lo b4 b6 b7 b8 b9 P ⟨17, a, b, c⟩ nc g g (ls) vR vQ tr ⟨0, ep, eo, eb, 0, 0⟩ from ks_begin HWS.out HLO.out q4g q4x q4b q6g q6x q6b q7g q7x q7b q8g q8x q8b q9g q9x q9b); clear q4g q4x q4b q6g q6x q6b q7g q7x q7b q8g q8x q8b q9g q9x q9b W1 W2 W3 W4; have x9 := HK.out.vrc; have xr := HK.out.r2c HER.out; rw [HER.out] at x9; rw [HE2.out] at xr; have i2 := HK.out.i2; obtain ⟨e3, ef3⟩ := HK.out.e3; have i0 := HK.out.i0) | ((with_reducible refine gs 3 19 ?_); refine sv (W.setCell ⟨b7, 3, none⟩ (.int .i64 (b))) ?_; intro W hw; clear i2 e3 ef3 i0; replace HK := am (show KS w W lo b4 b6 b7 b8 b9 P ⟨17, a, b, c⟩ nc g g (ls) vR vQ tr ⟨0, ep, eo, (b), 0, 0⟩ by rw [hw]; exact KS.evs HK.out 3 (.int .i64 (b)) rfl); clear hw; have i0 := HK.out.i0; have i1 := HK.out.i1; have i2 := HK.out.i2; have s11 := Box.at11 HK.out.x4; rw [HE5.out] at s11; obtain ⟨r5b, rf5b⟩ := HK.out.rc 5 HE5.out b HPb5.out.1 HPb5.out.2; obtain ⟨r2a, rf2a⟩ := HK.out.rc 2 HE2.out a HPa2.out.1 HPa2.out.2; clear x9 xr))
  go_still_tail 10, (by kernel_rfl)
  change wpList _ _ _ _ _ W.drew
  replace HK := am HK.out.drew
  generalize W.drew = W at HK ⊢
  try simp only [i64_w]
  clear i0 i1 i2 s11 r5b rf5b r2a rf2a
  obtain ⟨r2a, rf2a⟩ := HK.out.rc 2 HE2.out a HPa2.out.1 HPa2.out.2
  go_wp2_with (first | ((with_reducible refine gs 3 33 ?_); refine sv (W.setCell ⟨k2, (a : Int).toNat, none⟩ (.int .i64 (rd (ls 5) b))) ?_; intro W hw; clear r2a rf2a; replace HK := am (show KS w W lo b4 b6 b7 b8 b9 P ⟨17, a, b, c⟩ nc g g (st (ls) 2 a (rd (ls 5) b)) vR vQ tr ⟨0, ep, eo, (b), 0, 0⟩ by rw [hw]; exact KS.put HK.out 2 HE2.out a (rd (ls 5) b)); clear hw; have i1 := HK.out.i1; obtain ⟨r2a, rf2a⟩ := HK.out.rc 2 HE2.out a HPa2.out.1 HPa2.out.2; obtain ⟨e4, ef4⟩ := HK.out.e4) | ((with_reducible refine gs 3 39 ?_); refine sv (W.setCell ⟨b7, 4, none⟩ (.int .i64 (rd ((st (ls) 2 a (rd (ls 5) b)) 2) a))) ?_; intro W hw; clear i1 r2a rf2a e4 ef4; replace HK := am (show KS w W lo b4 b6 b7 b8 b9 P ⟨17, a, b, c⟩ nc g g (st (ls) 2 a (rd (ls 5) b)) vR vQ tr ⟨0, ep, eo, (b), (rd ((st (ls) 2 a (rd (ls 5) b)) 2) a), 0⟩ by rw [hw]; exact KS.evs HK.out 4 (.int .i64 (rd ((st (ls) 2 a (rd (ls 5) b)) 2) a)) rfl); clear hw))
  have HONE : Aside0 ((sCells P g vR vQ tr).all (·.oneCell') = true) := ⟨by rw [← show sCells P g vR vQ tr = sCells P g vR vQ tr from rfl]; exact sOne _ (HK.out.ws.rs (Seen.refl g _)) HC.out HT.out⟩
  replace HK := am HK.out.drew
  refine sa 5 (fun w' => w'.heap[b4]? = some (.cells (sCells P g vR vQ tr) 70 (0, 0)) ∧ w'.heap[b7]? = some (.cells (eCells ⟨0, ep, eo, (b), (rd ((st (ls) 2 a (rd (ls 5) b)) 2) a), 0⟩) 75 (0, 0))) tailT63 (⟨HK.out.x4, HK.out.x7⟩) [3] (fun HT_ hHeld => ?_)
  generalize W.drew = W at hHeld HK ⊢
  refine ta 0 151 HT_ hHeld (v := (.agg (sCells P g vR vQ tr))) ?_ ?_
  · exact fun w' hS' => exec_load_row 70 (.tmp 4) rfl b4 rfl 70 (sCells P g vR vQ tr) (0, 0) _ hS'.1 Try.underlying70 rfl size70
  refine ta 1 152 HT_ hHeld (v := (.agg (eCells ⟨0, ep, eo, (b), (rd ((st (ls) 2 a (rd (ls 5) b)) 2) a), 0⟩))) ?_ ?_
  · exact fun w' hS' => exec_load_row 75 (.tmp 7) rfl b7 rfl 75 (eCells ⟨0, ep, eo, (b), (rd ((st (ls) 2 a (rd (ls 5) b)) 2) a), 0⟩) (0, 0) _ hS'.2 Try.underlying75 rfl size75
  refine on 2 (none) HT_ (fun K hK => ?_)
  refine skip_ (w1 := W.setRow b8 (sCells P g vR vQ tr)) (by rfl) rfl (exec_store_row 70 (.tmp 8) (.tmp 151) rfl b8 (sCells P g vR vQ tr) rfl rfl 70 _ HK.out.x8 size70 rfl HONE.out) ?_
  refine hK.out _ _ (⟨(setRow_other _ _ _ _ HK.out.n48).trans hHeld.1, (setRow_other _ _ _ _ (blk_ne HK.out.x7 HK.out.x8 (by decide))).trans hHeld.2⟩) (fun hHeld => ?_)
  clear hK K
  refine la 3 (none) HT_ (fun K hK => ?_)
  refine skip_ (w1 := (W.setRow b8 (sCells P g vR vQ tr)).setRow b9 (eCells ⟨0, ep, eo, (b), (rd ((st (ls) 2 a (rd (ls 5) b)) 2) a), 0⟩)) (by rfl) rfl (exec_store_row 75 (.tmp 9) (.tmp 152) rfl b9 (eCells ⟨0, ep, eo, (b), (rd ((st (ls) 2 a (rd (ls 5) b)) 2) a), 0⟩) rfl rfl 75 _ ((setRow_other _ _ _ _ (Ne.symm HK.out.n89)).trans HK.out.x9) size75 rfl (eOne _)) ?_
  refine hK.out _ _ ?_
  clear hK K
  refine pu 4 10 HT_ ?_
  refine dn HT_ ?_
  go_wp2
  obtain ⟨f1, f2, f3⟩ := KS.fin HK.out rfl (Seen.refl g _) rfl
  refine results3 rfl b8 b9 _ _ true f2 f3 ?hp ?hq ?hr ?hd f1
  case hp => rfl
  case hq => rfl
  case hr => rfl
  case hd => rfl
set_option maxHeartbeats 16000000 in
set_option maxRecDepth 100000 in
theorem taken19 (P : PV) (g : Nat → Value) (ls : Nat → List Int) (vR vQ : Value) (nc n : Nat) (tr : Int) (a b c ep eo eb : Int) (w : World) (lo : Nat) (h : WF w lo g g ls vR vQ nc) (hlo : lo ≤ w.heap.size) (hok : okI n ls ⟨19, a, b, c⟩) (h2 : (ls 2).length = 4) (h8 : (ls 8).length = nc) (hC : P.vC.oneCell' = true) (hT : P.vT.oneCell' = true) :
    Calls Try.prog 63 #[.agg (sCells P g vR vQ tr), .int .i64 0, .agg (iCells ⟨19, a, b, c⟩), .agg (eCells ⟨0, ep, eo, eb, 0, 0⟩)] w (RetS w lo nc P (st (st ls 5 b (wrap64 (rd (ls 5) b + rd (ls 2) c))) 2 a (rd (ls 5) b)) (tr)) := by
  have HWS := am h
  have HLO := am hlo
  have HOK := am hok
  have H2 := am h2
  have H8 := am h8
  have HC := am hC
  have HT := am hT
  clear h hlo hok h2 h8 hC hT
  obtain ⟨rR, cR, eR⟩ : ∃ k c, vR = .slice (some ⟨k, 0, none⟩) 1 c := by
    obtain ⟨x, hr, _⟩ := HWS.out.r
    obtain ⟨k, c, e, _⟩ := outer_at hr 0 (Int.le_refl _) (by simp)
    exact ⟨k, c, e⟩
  obtain ⟨k2, c2, e2, _⟩ := HWS.out.at 2 0 (Int.le_refl _) (by rw [H2.out]; decide)
  rw [H2.out] at e2
  have HER := am eR
  have HE2 := am e2
  clear e2 eR
  obtain ⟨q0, q1⟩ := HOK.out.a2 (by simp)
  rw [H2.out] at q1
  replace q0 : 0 ≤ a := q0
  replace q1 : a < (4 : Int) := q1
  have HPa2 : Aside0 (0 ≤ a ∧ a < ((4 : Nat) : Int)) := ⟨⟨q0, q1⟩⟩
  have ta0 := eq_true q0
  have ta21 := eq_true q1
  clear q0 q1
  obtain ⟨q0, q1⟩ := HOK.out.t2 (by simp)
  replace q0 : 0 ≤ b := q0
  replace q1 : b < ((ls 5).length : Int) := q1
  obtain ⟨k5, c5, e5, _⟩ := HWS.out.at 5 b q0 q1
  have HE5 := am e5
  clear e5
  have HPb5 := am (And.intro q0 q1)
  have tb0 := eq_true q0
  have tb51 := eq_true q1
  clear q0 q1
  obtain ⟨q0, q1⟩ := HOK.out.c2 (by simp)
  rw [H2.out] at q1
  replace q0 : 0 ≤ c := q0
  replace q1 : c < (4 : Int) := q1
  have HPc2 : Aside0 (0 ≤ c ∧ c < ((4 : Nat) : Int)) := ⟨⟨q0, q1⟩⟩
  have tc0 := eq_true q0
  have tc21 := eq_true q1
  clear q0 q1
  go_enter Try.func63, Try.ntmps63
  go_wp2_with (first | ((with_reducible refine gd 4 ?_); refine bx 4 (sCells P g vR vQ tr) 70 ?_; intro b4 q4g W1 q4x q4b) | ((with_reducible refine gd 6 ?_); refine bx 6 (iCells ⟨19, a, b, c⟩) 33 ?_; intro b6 q6g W2 q6x q6b) | ((with_reducible refine gd 7 ?_); refine bx 7 (eCells ⟨0, ep, eo, eb, 0, 0⟩) 75 ?_; intro b7 q7g W3 q7x q7b) | ((with_reducible refine gd 8 ?_); refine bx 8 (zCells) 70 ?_; intro b8 q8g W4 q8x q8b) | ((with_reducible refine gd 9 ?_); refine bx 9 (zE) 75 ?_; intro b9 q9g W q9x q9b; have HK := am (show KS w W lo b4 b6 b7 b8 b9 P ⟨19, a, b, c⟩ nc g g (ls) vR vQ tr ⟨0, ep, eo, eb, 0, 0⟩ from ks_begin HWS.out HLO.out q4g q4x q4b q6g q6x q6b q7g q7x q7b q8g q8x q8b q9g q9x q9b); clear q4g q4x q4b q6g q6x q6b q7g q7x q7b q8g q8x q8b q9g q9x q9b W1 W2 W3 W4; have x9 := HK.out.vrc; have xr := HK.out.r2c HER.out; rw [HER.out] at x9; rw [HE2.out] at xr; have i2 := HK.out.i2; obtain ⟨e3, ef3⟩ := HK.out.e3; have i0 := HK.out.i0) | ((with_reducible refine gs 3 19 ?_); refine sv (W.setCell ⟨b7, 3, none⟩ (.int .i64 (b))) ?_; intro W hw; clear i2 e3 ef3 i0; replace HK := am (show KS w W lo b4 b6 b7 b8 b9 P ⟨19, a, b, c⟩ nc g g (ls) vR vQ tr ⟨0, ep, eo, (b), 0, 0⟩ by rw [hw]; exact KS.evs HK.out 3 (.int .i64 (b)) rfl); clear hw; have i0 := HK.out.i0; have i2 := HK.out.i2; have s11 := Box.at11 HK.out.x4; rw [HE5.out] at s11; obtain ⟨r5b, rf5b⟩ := HK.out.rc 5 HE5.out b HPb5.out.1 HPb5.out.2; obtain ⟨e4, ef4⟩ := HK.out.e4; clear x9 xr) | ((with_reducible refine gs 3 48 ?_); refine sv (W.setCell ⟨b7, 4, none⟩ (.int .i64 (rd (ls 5) b))) ?_; intro W hw; clear i0 i2 s11 r5b rf5b e4 ef4; replace HK := am (show KS w W lo b4 b6 b7 b8 b9 P ⟨19, a, b, c⟩ nc g g (ls) vR vQ tr ⟨0, ep, eo, (b), (rd (ls 5) b), 0⟩ by rw [hw]; exact KS.evs HK.out 4 (.int .i64 (rd (ls 5) b)) rfl); clear hw; have i2 := HK.out.i2; have i3 := HK.out.i3; have s11 := Box.at11 HK.out.x4; rw [HE5.out] at s11; obtain ⟨r5b, rf5b⟩ := HK.out.rc 5 HE5.out b HPb5.out.1 HPb5.out.2; obtain ⟨r2c, rf2c⟩ := HK.out.rc 2 HE2.out c HPc2.out.1 HPc2.out.2))
  go_still_tail 13, (by kernel_rfl)
  change wpList _ _ _ _ _ W.drew
  replace HK := am HK.out.drew
  generalize W.drew = W at HK ⊢
  try simp only [i64_w]
  clear i2 i3 s11 r5b rf5b r2c rf2c
  obtain ⟨r5b, rf5b⟩ := HK.out.rc 5 HE5.out b HPb5.out.1 HPb5.out.2
  go_wp2_with (first | ((with_reducible refine gs 3 61 ?_); refine sv (W.setCell ⟨k5, (b : Int).toNat, none⟩ (.int .i64 (wrap64 (rd (ls 5) b + rd (ls 2) c)))) ?_; intro W hw; clear r5b rf5b; replace HK := am (show KS w W lo b4 b6 b7 b8 b9 P ⟨19, a, b, c⟩ nc g g (st (ls) 5 b (wrap64 (rd (ls 5) b + rd (ls 2) c))) vR vQ tr ⟨0, ep, eo, (b), (rd (ls 5) b), 0⟩ by rw [hw]; exact KS.put HK.out 5 HE5.out b (wrap64 (rd (ls 5) b + rd (ls 2) c))); clear hw; have i1 := HK.out.i1; obtain ⟨e4, ef4⟩ := HK.out.e4; obtain ⟨r2a, rf2a⟩ := HK.out.rc 2 HE2.out a HPa2.out.1 HPa2.out.2) | ((with_reducible refine gs 3 67 ?_); refine sv (W.setCell ⟨k2, (a : Int).toNat, none⟩ (.int .i64 (rd (ls 5) b))) ?_; intro W hw; clear i1 e4 ef4 r2a rf2a; replace HK := am (show KS w W lo b4 b6 b7 b8 b9 P ⟨19, a, b, c⟩ nc g g (st (st (ls) 5 b (wrap64 (rd (ls 5) b + rd (ls 2) c))) 2 a (rd (ls 5) b)) vR vQ tr ⟨0, ep, eo, (b), (rd (ls 5) b), 0⟩ by rw [hw]; exact KS.put HK.out 2 HE2.out a (rd (ls 5) b)); clear hw))
  have HONE : Aside0 ((sCells P g vR vQ tr).all (·.oneCell') = true) := ⟨by rw [← show sCells P g vR vQ tr = sCells P g vR vQ tr from rfl]; exact sOne _ (HK.out.ws.rs (Seen.refl g _)) HC.out HT.out⟩
  replace HK := am HK.out.drew
  refine sa 5 (fun w' => w'.heap[b4]? = some (.cells (sCells P g vR vQ tr) 70 (0, 0)) ∧ w'.heap[b7]? = some (.cells (eCells ⟨0, ep, eo, (b), (rd (ls 5) b), 0⟩) 75 (0, 0))) tailT63 (⟨HK.out.x4, HK.out.x7⟩) [3] (fun HT_ hHeld => ?_)
  generalize W.drew = W at hHeld HK ⊢
  refine ta 0 151 HT_ hHeld (v := (.agg (sCells P g vR vQ tr))) ?_ ?_
  · exact fun w' hS' => exec_load_row 70 (.tmp 4) rfl b4 rfl 70 (sCells P g vR vQ tr) (0, 0) _ hS'.1 Try.underlying70 rfl size70
  refine ta 1 152 HT_ hHeld (v := (.agg (eCells ⟨0, ep, eo, (b), (rd (ls 5) b), 0⟩))) ?_ ?_
  · exact fun w' hS' => exec_load_row 75 (.tmp 7) rfl b7 rfl 75 (eCells ⟨0, ep, eo, (b), (rd (ls 5) b), 0⟩) (0, 0) _ hS'.2 Try.underlying75 rfl size75
  refine on 2 (none) HT_ (fun K hK => ?_)
  refine skip_ (w1 := W.setRow b8 (sCells P g vR vQ tr)) (by rfl) rfl (exec_store_row 70 (.tmp 8) (.tmp 151) rfl b8 (sCells P g vR vQ tr) rfl rfl 70 _ HK.out.x8 size70 rfl HONE.out) ?_
  refine hK.out _ _ (⟨(setRow_other _ _ _ _ HK.out.n48).trans hHeld.1, (setRow_other _ _ _ _ (blk_ne HK.out.x7 HK.out.x8 (by decide))).trans hHeld.2⟩) (fun hHeld => ?_)
  clear hK K
  refine la 3 (none) HT_ (fun K hK => ?_)
  refine skip_ (w1 := (W.setRow b8 (sCells P g vR vQ tr)).setRow b9 (eCells ⟨0, ep, eo, (b), (rd (ls 5) b), 0⟩)) (by rfl) rfl (exec_store_row 75 (.tmp 9) (.tmp 152) rfl b9 (eCells ⟨0, ep, eo, (b), (rd (ls 5) b), 0⟩) rfl rfl 75 _ ((setRow_other _ _ _ _ (Ne.symm HK.out.n89)).trans HK.out.x9) size75 rfl (eOne _)) ?_
  refine hK.out _ _ ?_
  clear hK K
  refine pu 4 10 HT_ ?_
  refine dn HT_ ?_
  go_wp2
  obtain ⟨f1, f2, f3⟩ := KS.fin HK.out rfl (Seen.refl g _) rfl
  refine results3 rfl b8 b9 _ _ true f2 f3 ?hp ?hq ?hr ?hd f1
  case hp => rfl
  case hq => rfl
  case hr => rfl
  case hd => rfl
set_option maxHeartbeats 16000000 in
set_option maxRecDepth 100000 in
theorem taken26a (P : PV) (g : Nat → Value) (ls : Nat → List Int) (vR vQ : Value) (nc n : Nat) (tr : Int) (a b c ep eo eb : Int) (w : World) (lo : Nat) (h : WF w lo g g ls vR vQ nc) (hlo : lo ≤ w.heap.size) (hok : okI n ls ⟨26, a, b, c⟩) (h2 : (ls 2).length = 4) (h8 : (ls 8).length = nc) (hC : P.vC.oneCell' = true) (hT : P.vT.oneCell' = true) (hz : rd (ls 10) b = 0) :
    Calls Try.prog 63 #[.agg (sCells P g vR vQ tr), .int .i64 0, .agg (iCells ⟨26, a, b, c⟩), .agg (eCells ⟨0, ep, eo, eb, 0, 0⟩)] w (RetS w lo nc P (st (st ls 10 b 1) 2 a 1) (tr)) := by
  have HWS := am h
  have HLO := am hlo
  have HOK := am hok
  have H2 := am h2
  have H8 := am h8
  have HC := am hC
  have HT := am hT
  clear h hlo hok h2 h8 hC hT
  obtain ⟨rR, cR, eR⟩ : ∃ k c, vR = .slice (some ⟨k, 0, none⟩) 1 c := by
    obtain ⟨x, hr, _⟩ := HWS.out.r
    obtain ⟨k, c, e, _⟩ := outer_at hr 0 (Int.le_refl _) (by simp)
    exact ⟨k, c, e⟩
  obtain ⟨k2, c2, e2, _⟩ := HWS.out.at 2 0 (Int.le_refl _) (by rw [H2.out]; decide)
  rw [H2.out] at e2
  have HER := am eR
  have HE2 := am e2
  clear e2 eR
  obtain ⟨q0, q1⟩ := HOK.out.a2 (by simp)
  rw [H2.out] at q1
  replace q0 : 0 ≤ a := q0
  replace q1 : a < (4 : Int) := q1
  have HPa2 : Aside0 (0 ≤ a ∧ a < ((4 : Nat) : Int)) := ⟨⟨q0, q1⟩⟩
  have ta0 := eq_true q0
  have ta21 := eq_true q1
  clear q0 q1
  obtain ⟨q0, q1⟩ := HOK.out.e2 (by simp)
  replace q0 : 0 ≤ b := q0
  replace q1 : b < ((ls 10).length : Int) := q1
  obtain ⟨k10, c10, e10, _⟩ := HWS.out.at 10 b q0 q1
  have HE10 := am e10
  clear e10
  have HPb10 := am (And.intro q0 q1)
  have tb0 := eq_true q0
  have tb101 := eq_true q1
  clear q0 q1
  go_enter Try.func63, Try.ntmps63
  go_wp2_with (first | ((with_reducible refine gd 4 ?_); refine bx 4 (sCells P g vR vQ tr) 70 ?_; intro b4 q4g W1 q4x q4b) | ((with_reducible refine gd 6 ?_); refine bx 6 (iCells ⟨26, a, b, c⟩) 33 ?_; intro b6 q6g W2 q6x q6b) | ((with_reducible refine gd 7 ?_); refine bx 7 (eCells ⟨0, ep, eo, eb, 0, 0⟩) 75 ?_; intro b7 q7g W3 q7x q7b) | ((with_reducible refine gd 8 ?_); refine bx 8 (zCells) 70 ?_; intro b8 q8g W4 q8x q8b) | ((with_reducible refine gd 9 ?_); refine bx 9 (zE) 75 ?_; intro b9 q9g W q9x q9b; have HK := am (show KS w W lo b4 b6 b7 b8 b9 P ⟨26, a, b, c⟩ nc g g (ls) vR vQ tr ⟨0, ep, eo, eb, 0, 0⟩ from ks_begin HWS.out HLO.out q4g q4x q4b q6g q6x q6b q7g q7x q7b q8g q8x q8b q9g q9x q9b); clear q4g q4x q4b q6g q6x q6b q7g q7x q7b q8g q8x q8b q9g q9x q9b W1 W2 W3 W4; have x9 := HK.out.vrc; have xr := HK.out.r2c HER.out; rw [HER.out] at x9; rw [HE2.out] at xr; have i2 := HK.out.i2; obtain ⟨e3, ef3⟩ := HK.out.e3; have i0 := HK.out.i0) | ((with_reducible refine gs 3 19 ?_); refine sv (W.setCell ⟨b7, 3, none⟩ (.int .i64 (b))) ?_; intro W hw; clear i2 e3 ef3 i0; replace HK := am (show KS w W lo b4 b6 b7 b8 b9 P ⟨26, a, b, c⟩ nc g g (ls) vR vQ tr ⟨0, ep, eo, (b), 0, 0⟩ by rw [hw]; exact KS.evs HK.out 3 (.int .i64 (b)) rfl); clear hw; have i0 := HK.out.i0; have i2 := HK.out.i2; have s16 := Box.at16 HK.out.x4; rw [HE10.out] at s16; obtain ⟨r10b, rf10b⟩ := HK.out.rc 10 HE10.out b HPb10.out.1 HPb10.out.2; rw [hz] at r10b; obtain ⟨e5, ef5⟩ := HK.out.e5; clear x9 xr) | (go_at_call 54; refine (number_any _ _).mono ?_; rintro e w_ ⟨rfl, hw_⟩; replace hw_ := hw_.symm; subst hw_) | ((with_reducible refine gs 3 78 ?_); refine sv (W.setCell ⟨b7, 5, none⟩ (.int .i64 (1))) ?_; intro W hw; clear i0 i2 s16 r10b rf10b e5 ef5; replace HK := am (show KS w W lo b4 b6 b7 b8 b9 P ⟨26, a, b, c⟩ nc g g (ls) vR vQ tr ⟨0, ep, eo, (b), 0, (1)⟩ by rw [hw]; exact KS.evs HK.out 5 (.int .i64 (1)) rfl); clear hw; have i2 := HK.out.i2; have s16 := Box.at16 HK.out.x4; rw [HE10.out] at s16; obtain ⟨r10b, rf10b⟩ := HK.out.rc 10 HE10.out b HPb10.out.1 HPb10.out.2; obtain ⟨e5, ef5⟩ := HK.out.e5) | ((with_reducible refine gs 3 86 ?_); refine sv (W.setCell ⟨k10, (b : Int).toNat, none⟩ (.int .i64 (1))) ?_; intro W hw; clear i2 s16 r10b rf10b e5 ef5; replace HK := am (show KS w W lo b4 b6 b7 b8 b9 P ⟨26, a, b, c⟩ nc g g (st (ls) 10 b (1)) vR vQ tr ⟨0, ep, eo, (b), 0, (1)⟩ by rw [hw]; exact KS.put HK.out 10 HE10.out b (1)); clear hw; have i1 := HK.out.i1; obtain ⟨e5, ef5⟩ := HK.out.e5; obtain ⟨r2a, rf2a⟩ := HK.out.rc 2 HE2.out a HPa2.out.1 HPa2.out.2) | ((with_reducible refine gs 3 92 ?_); refine sv (W.setCell ⟨k2, (a : Int).toNat, none⟩ (.int .i64 (1))) ?_; intro W hw; clear i1 e5 ef5 r2a rf2a; replace HK := am (show KS w W lo b4 b6 b7 b8 b9 P ⟨26, a, b, c⟩ nc g g (st (st (ls) 10 b (1)) 2 a (1)) vR vQ tr ⟨0, ep, eo, (b), 0, (1)⟩ by rw [hw]; exact KS.put HK.out 2 HE2.out a (1)); clear hw))
  have HONE : Aside0 ((sCells P g vR vQ tr).all (·.oneCell') = true) := ⟨by rw [← show sCells P g vR vQ tr = sCells P g vR vQ tr from rfl]; exact sOne _ (HK.out.ws.rs (Seen.refl g _)) HC.out HT.out⟩
  replace HK := am HK.out.drew
  refine sa 5 (fun w' => w'.heap[b4]? = some (.cells (sCells P g vR vQ tr) 70 (0, 0)) ∧ w'.heap[b7]? = some (.cells (eCells ⟨0, ep, eo, (b), 0, (1)⟩) 75 (0, 0))) tailT63 (⟨HK.out.x4, HK.out.x7⟩) [3] (fun HT_ hHeld => ?_)
  generalize W.drew = W at hHeld HK ⊢
  refine ta 0 151 HT_ hHeld (v := (.agg (sCells P g vR vQ tr))) ?_ ?_
  · exact fun w' hS' => exec_load_row 70 (.tmp 4) rfl b4 rfl 70 (sCells P g vR vQ tr) (0, 0) _ hS'.1 Try.underlying70 rfl size70
  refine ta 1 152 HT_ hHeld (v := (.agg (eCells ⟨0, ep, eo, (b), 0, (1)⟩))) ?_ ?_
  · exact fun w' hS' => exec_load_row 75 (.tmp 7) rfl b7 rfl 75 (eCells ⟨0, ep, eo, (b), 0, (1)⟩) (0, 0) _ hS'.2 Try.underlying75 rfl size75
  refine on 2 (none) HT_ (fun K hK => ?_)
  refine skip_ (w1 := W.setRow b8 (sCells P g vR vQ tr)) (by rfl) rfl (exec_store_row 70 (.tmp 8) (.tmp 151) rfl b8 (sCells P g vR vQ tr) rfl rfl 70 _ HK.out.x8 size70 rfl HONE.out) ?_
  refine hK.out _ _ (⟨(setRow_other _ _ _ _ HK.out.n48).trans hHeld.1, (setRow_other _ _ _ _ (blk_ne HK.out.x7 HK.out.x8 (by decide))).trans hHeld.2⟩) (fun hHeld => ?_)
  clear hK K
  refine la 3 (none) HT_ (fun K hK => ?_)
  refine skip_ (w1 := (W.setRow b8 (sCells P g vR vQ tr)).setRow b9 (eCells ⟨0, ep, eo, (b), 0, (1)⟩)) (by rfl) rfl (exec_store_row 75 (.tmp 9) (.tmp 152) rfl b9 (eCells ⟨0, ep, eo, (b), 0, (1)⟩) rfl rfl 75 _ ((setRow_other _ _ _ _ (Ne.symm HK.out.n89)).trans HK.out.x9) size75 rfl (eOne _)) ?_
  refine hK.out _ _ ?_
  clear hK K
  refine pu 4 10 HT_ ?_
  refine dn HT_ ?_
  go_wp2
  obtain ⟨f1, f2, f3⟩ := KS.fin HK.out rfl (Seen.refl g _) rfl
  refine results3 rfl b8 b9 _ _ true f2 f3 ?hp ?hq ?hr ?hd f1
  case hp => rfl
  case hq => rfl
  case hr => rfl
  case hd => rfl
set_option maxHeartbeats 16000000 in
set_option maxRecDepth 100000 in
theorem taken26b (P : PV) (g : Nat → Value) (ls : Nat → List Int) (vR vQ : Value) (nc n : Nat) (tr : Int) (a b c ep eo eb : Int) (w : World) (lo : Nat) (h : WF w lo g g ls vR vQ nc) (hlo : lo ≤ w.heap.size) (hok : okI n ls ⟨26, a, b, c⟩) (h2 : (ls 2).length = 4) (h8 : (ls 8).length = nc) (hC : P.vC.oneCell' = true) (hT : P.vT.oneCell' = true) (hz : (rd (ls 10) b == 0) = false) :
    Calls Try.prog 63 #[.agg (sCells P g vR vQ tr), .int .i64 0, .agg (iCells ⟨26, a, b, c⟩), .agg (eCells ⟨0, ep, eo, eb, 0, 0⟩)] w (RetS w lo nc P (st ls 2 a 0) (tr)) := by
  have HWS := am h
  have HLO := am hlo
  have HOK := am hok
  have H2 := am h2
  have H8 := am h8
  have HC := am hC
  have HT := am hT
  clear h hlo hok h2 h8 hC hT
  obtain ⟨rR, cR, eR⟩ : ∃ k c, vR = .slice (some ⟨k, 0, none⟩) 1 c := by
    obtain ⟨x, hr, _⟩ := HWS.out.r
    obtain ⟨k, c, e, _⟩ := outer_at hr 0 (Int.le_refl _) (by simp)
    exact ⟨k, c, e⟩
  obtain ⟨k2, c2, e2, _⟩ := HWS.out.at 2 0 (Int.le_refl _) (by rw [H2.out]; decide)
  rw [H2.out] at e2
  have HER := am eR
  have HE2 := am e2
  clear e2 eR
  obtain ⟨q0, q1⟩ := HOK.out.a2 (by simp)
  rw [H2.out] at q1
  replace q0 : 0 ≤ a := q0
  replace q1 : a < (4 : Int) := q1
  have HPa2 : Aside0 (0 ≤ a ∧ a < ((4 : Nat) : Int)) := ⟨⟨q0, q1⟩⟩
  have ta0 := eq_true q0
  have ta21 := eq_true q1
  clear q0 q1
  obtain ⟨q0, q1⟩ := HOK.out.e2 (by simp)
  replace q0 : 0 ≤ b := q0
  replace q1 : b < ((ls 10).length : Int) := q1
  obtain ⟨k10, c10, e10, _⟩ := HWS.out.at 10 b q0 q1
  have HE10 := am e10
  clear e10
  have HPb10 := am (And.intro q0 q1)
  have tb0 := eq_true q0
  have tb101 := eq_true q1
  clear q0 q1
  go_enter Try.func63, Try.ntmps63
  go_wp2_with (first | ((with_reducible refine gd 4 ?_); refine bx 4 (sCells P g vR vQ tr) 70 ?_; intro b4 q4g W1 q4x q4b) | ((with_reducible refine gd 6 ?_); refine bx 6 (iCells ⟨26, a, b, c⟩) 33 ?_; intro b6 q6g W2 q6x q6b) | ((with_reducible refine gd 7 ?_); refine bx 7 (eCells ⟨0, ep, eo, eb, 0, 0⟩) 75 ?_; intro b7 q7g W3 q7x q7b) | ((with_reducible refine gd 8 ?_); refine bx 8 (zCells) 70 ?_; intro b8 q8g W4 q8x q8b) | ((with_reducible refine gd 9 ?_); refine bx 9 (zE) 75 ?_; intro b9 q9g W q9x q9b; have HK := am (show KS w W lo b4 b6 b7 b8 b9 P ⟨26, a, b, c⟩ nc g g (ls) vR vQ tr ⟨0, ep, eo, eb, 0, 0⟩ from ks_begin HWS.out HLO.out q4g q4x q4b q6g q6x q6b q7g q7x q7b q8g q8x q8b q9g q9x q9b); clear q4g q4x q4b q6g q6x q6b q7g q7x q7b q8g q8x q8b q9g q9x q9b W1 W2 W3 W4; have x9 := HK.out.vrc; have xr := HK.out.r2c HER.out; rw [HER.out] at x9; rw [HE2.out] at xr; have i2 := HK.out.i2; obtain ⟨e3, ef3⟩ := HK.out.e3; have i0 := HK.out.i0) | ((with_reducible refine gs 3 19 ?_); refine sv (W.setCell ⟨b7, 3, none⟩ (.int .i64 (b))) ?_; intro W hw; clear i2 e3 ef3 i0; replace HK := am (show KS w W lo b4 b6 b7 b8 b9 P ⟨26, a, b, c⟩ nc g g (ls) vR vQ tr ⟨0, ep, eo, (b), 0, 0⟩ by rw [hw]; exact KS.evs HK.out 3 (.int .i64 (b)) rfl); clear hw; have i0 := HK.out.i0; have i2 := HK.out.i2; have s16 := Box.at16 HK.out.x4; rw [HE10.out] at s16; obtain ⟨r10b, rf10b⟩ := HK.out.rc 10 HE10.out b HPb10.out.1 HPb10.out.2; obtain ⟨e5, ef5⟩ := HK.out.e5; clear x9 xr) | (go_at_call 54; refine (number_any _ _).mono ?_; rintro e w_ ⟨rfl, hw_⟩; replace hw_ := hw_.symm; subst hw_) | ((with_reducible refine gs 3 78 ?_); refine sv (W.setCell ⟨b7, 5, none⟩ (.int .i64 (0))) ?_; intro W hw; clear i0 i2 s16 r10b rf10b e5 ef5; replace HK := am (show KS w W lo b4 b6 b7 b8 b9 P ⟨26, a, b, c⟩ nc g g (ls) vR vQ tr ⟨0, ep, eo, (b), 0, (0)⟩ by rw [hw]; exact KS.evs HK.out 5 (.int .i64 (0)) rfl); clear hw; have i1 := HK.out.i1; obtain ⟨e5, ef5⟩ := HK.out.e5; obtain ⟨r2a, rf2a⟩ := HK.out.rc 2 HE2.out a HPa2.out.1 HPa2.out.2) | ((with_reducible refine gs 3 92 ?_); refine sv (W.setCell ⟨k2, (a : Int).toNat, none⟩ (.int .i64 (0))) ?_; intro W hw; clear i1 e5 ef5 r2a rf2a; replace HK := am (show KS w W lo b4 b6 b7 b8 b9 P ⟨26, a, b, c⟩ nc g g (st (ls) 2 a (0)) vR vQ tr ⟨0, ep, eo, (b), 0, (0)⟩ by rw [hw]; exact KS.put HK.out 2 HE2.out a (0)); clear hw))
  have HONE : Aside0 ((sCells P g vR vQ tr).all (·.oneCell') = true) := ⟨by rw [← show sCells P g vR vQ tr = sCells P g vR vQ tr from rfl]; exact sOne _ (HK.out.ws.rs (Seen.refl g _)) HC.out HT.out⟩
  replace HK := am HK.out.drew
  refine sa 5 (fun w' => w'.heap[b4]? = some (.cells (sCells P g vR vQ tr) 70 (0, 0)) ∧ w'.heap[b7]? = some (.cells (eCells ⟨0, ep, eo, (b), 0, (0)⟩) 75 (0, 0))) tailT63 (⟨HK.out.x4, HK.out.x7⟩) [3] (fun HT_ hHeld => ?_)
  generalize W.drew = W at hHeld HK ⊢
  refine ta 0 151 HT_ hHeld (v := (.agg (sCells P g vR vQ tr))) ?_ ?_
  · exact fun w' hS' => exec_load_row 70 (.tmp 4) rfl b4 rfl 70 (sCells P g vR vQ tr) (0, 0) _ hS'.1 Try.underlying70 rfl size70
  refine ta 1 152 HT_ hHeld (v := (.agg (eCells ⟨0, ep, eo, (b), 0, (0)⟩))) ?_ ?_
  · exact fun w' hS' => exec_load_row 75 (.tmp 7) rfl b7 rfl 75 (eCells ⟨0, ep, eo, (b), 0, (0)⟩) (0, 0) _ hS'.2 Try.underlying75 rfl size75
  refine on 2 (none) HT_ (fun K hK => ?_)
  refine skip_ (w1 := W.setRow b8 (sCells P g vR vQ tr)) (by rfl) rfl (exec_store_row 70 (.tmp 8) (.tmp 151) rfl b8 (sCells P g vR vQ tr) rfl rfl 70 _ HK.out.x8 size70 rfl HONE.out) ?_
  refine hK.out _ _ (⟨(setRow_other _ _ _ _ HK.out.n48).trans hHeld.1, (setRow_other _ _ _ _ (blk_ne HK.out.x7 HK.out.x8 (by decide))).trans hHeld.2⟩) (fun hHeld => ?_)
  clear hK K
  refine la 3 (none) HT_ (fun K hK => ?_)
  refine skip_ (w1 := (W.setRow b8 (sCells P g vR vQ tr)).setRow b9 (eCells ⟨0, ep, eo, (b), 0, (0)⟩)) (by rfl) rfl (exec_store_row 75 (.tmp 9) (.tmp 152) rfl b9 (eCells ⟨0, ep, eo, (b), 0, (0)⟩) rfl rfl 75 _ ((setRow_other _ _ _ _ (Ne.symm HK.out.n89)).trans HK.out.x9) size75 rfl (eOne _)) ?_
  refine hK.out _ _ ?_
  clear hK K
  refine pu 4 10 HT_ ?_
  refine dn HT_ ?_
  go_wp2
  obtain ⟨f1, f2, f3⟩ := KS.fin HK.out rfl (Seen.refl g _) rfl
  refine results3 rfl b8 b9 _ _ true f2 f3 ?hp ?hq ?hr ?hd f1
  case hp => rfl
  case hq => rfl
  case hr => rfl
  case hd => rfl
set_option maxHeartbeats 16000000 in
set_option maxRecDepth 100000 in
theorem taken21a (P : PV) (g : Nat → Value) (ls : Nat → List Int) (vR vQ : Value) (nc n : Nat) (tr : Int) (a b c ep eo eb : Int) (w : World) (lo : Nat) (h : WF w lo g g ls vR vQ nc) (hlo : lo ≤ w.heap.size) (hok : okI n ls ⟨21, a, b, c⟩) (h2 : (ls 2).length = 4) (h8 : (ls 8).length = nc) (hC : P.vC.oneCell' = true) (hT : P.vT.oneCell' = true) (x : Int) (t : List Int) (hz : ls (12 + b.toNat) = x :: t) :
    Calls Try.prog 63 #[.agg (sCells P g vR vQ tr), .int .i64 0, .agg (iCells ⟨21, a, b, c⟩), .agg (eCells ⟨0, ep, eo, eb, 0, 0⟩)] w (RetS w lo nc P (st (up ls (12 + b.toNat) t) 2 a x) (tr)) := by
  have HWS := am h
  have HLO := am hlo
  have HOK := am hok
  have H2 := am h2
  have H8 := am h8
  have HC := am hC
  have HT := am hT
  clear h hlo hok h2 h8 hC hT
  obtain ⟨rR, cR, eR⟩ : ∃ k c, vR = .slice (some ⟨k, 0, none⟩) 1 c := by
    obtain ⟨x, hr, _⟩ := HWS.out.r
    obtain ⟨k, c, e, _⟩ := outer_at hr 0 (Int.le_refl _) (by simp)
    exact ⟨k, c, e⟩
  obtain ⟨k2, c2, e2, _⟩ := HWS.out.at 2 0 (Int.le_refl _) (by rw [H2.out]; decide)
  rw [H2.out] at e2
  have HER := am eR
  have HE2 := am e2
  clear e2 eR
  obtain ⟨q0, q1⟩ := HOK.out.a2 (by simp)
  rw [H2.out] at q1
  replace q0 : 0 ≤ a := q0
  replace q1 : a < (4 : Int) := q1
  have HPa2 : Aside0 (0 ≤ a ∧ a < ((4 : Nat) : Int)) := ⟨⟨q0, q1⟩⟩
  have ta0 := eq_true q0
  have ta21 := eq_true q1
  clear q0 q1
  obtain ⟨q0, q1⟩ := HOK.out.q2 (by simp)
  replace q0 : 0 ≤ b := q0
  replace q1 : b < ((ls 8).length : Int) := q1
  obtain ⟨k8, c8, e8, _⟩ := HWS.out.at 8 b q0 q1
  have HE8 := am e8
  clear e8
  have HPb8 := am (And.intro q0 q1)
  have tb0 := eq_true q0
  have tb81 := eq_true q1
  clear q0 q1
  have HZ := am hz
  clear hz
  obtain ⟨kQ, cQ, eQ, _⟩ := HWS.out.qc b HPb8.out.1 (by rw [← H8.out]; exact HPb8.out.2)
  have HEQ := am eQ
  clear eQ
  have tbn := eq_true (show b < (nc : Int) by rw [← H8.out]; exact HPb8.out.2)
  obtain ⟨kk, ck, ek, _⟩ := HWS.out.at (12 + b.toNat) 0 (Int.le_refl _) (by rw [HZ.out, List.length_cons]; omega)
  have hck : t.length + 1 ≤ ck := by
    obtain ⟨A, c', e', h1, _⟩ := Kd.R_reads (HWS.out.ms.row (12 + b.toNat))
    rw [ek] at e'
    injection e' with _ _ e3
    rw [HZ.out, List.length_cons] at h1
    omega
  rw [HZ.out, List.length_cons] at ek
  have HEK := am ek
  clear ek
  have HCK := am hck
  clear hck
  go_enter Try.func63, Try.ntmps63
  go_wp2_with (first | ((with_reducible refine gd 4 ?_); refine bx 4 (sCells P g vR vQ tr) 70 ?_; intro b4 q4g W1 q4x q4b) | ((with_reducible refine gd 6 ?_); refine bx 6 (iCells ⟨21, a, b, c⟩) 33 ?_; intro b6 q6g W2 q6x q6b) | ((with_reducible refine gd 7 ?_); refine bx 7 (eCells ⟨0, ep, eo, eb, 0, 0⟩) 75 ?_; intro b7 q7g W3 q7x q7b) | ((with_reducible refine gd 8 ?_); refine bx 8 (zCells) 70 ?_; intro b8 q8g W4 q8x q8b) | ((with_reducible refine gd 9 ?_); refine bx 9 (zE) 75 ?_; intro b9 q9g W q9x q9b; have HK := am (show KS w W lo b4 b6 b7 b8 b9 P ⟨21, a, b, c⟩ nc g g (ls) vR vQ tr ⟨0, ep, eo, eb, 0, 0⟩ from ks_begin HWS.out HLO.out q4g q4x q4b q6g q6x q6b q7g q7x q7b q8g q8x q8b q9g q9x q9b); clear q4g q4x q4b q6g q6x q6b q7g q7x q7b q8g q8x q8b q9g q9x q9b W1 W2 W3 W4; have x9 := HK.out.vrc; have xr := HK.out.r2c HER.out; rw [HER.out] at x9; rw [HE2.out] at xr; have i2 := HK.out.i2; obtain ⟨e3, ef3⟩ := HK.out.e3; have i0 := HK.out.i0) | ((with_reducible refine gs 3 19 ?_); refine sv (W.setCell ⟨b7, 3, none⟩ (.int .i64 (b))) ?_; intro W hw; clear i2 e3 ef3 i0; replace HK := am (show KS w W lo b4 b6 b7 b8 b9 P ⟨21, a, b, c⟩ nc g g (ls) vR vQ tr ⟨0, ep, eo, (b), 0, 0⟩ by rw [hw]; exact KS.evs HK.out 3 (.int .i64 (b)) rfl); clear hw; have i0 := HK.out.i0; have i2 := HK.out.i2; have s13 := Box.at13 HK.out.x4; rw [HEQ.out] at s13; obtain ⟨qc, qf⟩ := HK.out.qc HEQ.out b HPb8.out.1 (by rw [← H8.out]; exact HPb8.out.2); rw [HEK.out] at qc; obtain ⟨e5, ef5⟩ := HK.out.e5; clear x9 xr) | ((with_reducible refine gs 3 104 ?_); refine sv (W.setCell ⟨b7, 5, none⟩ (.int .i64 (1))) ?_; intro W hw; clear s13 qc qf i0 i2 e5 ef5; replace HK := am (show KS w W lo b4 b6 b7 b8 b9 P ⟨21, a, b, c⟩ nc g g (ls) vR vQ tr ⟨0, ep, eo, (b), 0, (1)⟩ by rw [hw]; exact KS.evs HK.out 5 (.int .i64 (1)) rfl); clear hw; have i2 := HK.out.i2; obtain ⟨e4, ef4⟩ := HK.out.e4; have s13 := Box.at13 HK.out.x4; rw [HEQ.out] at s13; obtain ⟨qc, qf⟩ := HK.out.qc HEQ.out b HPb8.out.1 (by rw [← H8.out]; exact HPb8.out.2); rw [HEK.out] at qc; have rq : W.cell? ⟨kk, 0, none⟩ = some (.int .i64 x) := by (have h := (HK.out.rc (12 + b.toNat) HEK.out 0 (Int.le_refl _) (by omega)).1; rw [HZ.out] at h; exact h)) | ((with_reducible refine gs 3 113 ?_); refine sv (W.setCell ⟨b7, 4, none⟩ (.int .i64 (x))) ?_; intro W hw; clear s13 qc qf rq i2 e4 ef4; replace HK := am (show KS w W lo b4 b6 b7 b8 b9 P ⟨21, a, b, c⟩ nc g g (ls) vR vQ tr ⟨0, ep, eo, (b), (x), (1)⟩ by rw [hw]; exact KS.evs HK.out 4 (.int .i64 (x)) rfl); clear hw; have i2 := HK.out.i2; have s13 := Box.at13 HK.out.x4; rw [HEQ.out] at s13; obtain ⟨qc, qf⟩ := HK.out.qc HEQ.out b HPb8.out.1 (by rw [← H8.out]; exact HPb8.out.2); rw [HEK.out] at qc))
  have hck1 := HCK.out
  obtain ⟨AC, hAC, hcut⟩ := cut_one kk (t.length + 1) ck (by omega) hck1
  have HAC := am hAC
  clear hAC hck1
  go_still_tail 12, (by kernel_rfl)
  change wpList _ _ _ _ _ W.drew
  replace HK := am HK.out.drew
  generalize W.drew = W at HK ⊢
  try simp only [i64_w]
  clear i2
  clear s13 qc qf
  obtain ⟨qc, qf⟩ := HK.out.qc HEQ.out b HPb8.out.1 (by rw [← H8.out]; exact HPb8.out.2)
  rw [HEK.out] at qc
  go_wp2_with (first | ((with_reducible refine gs 23 125 ?_); refine sv (W.setCell ⟨kQ, b.toNat, none⟩ (.slice AC (t.length + 1 - 1) (ck - 1))) ?_; intro W hw; clear qc qf; replace HK := am (show KS w W lo b4 b6 b7 b8 b9 P ⟨21, a, b, c⟩ nc g (up g (12 + b.toNat) (.slice AC (t.length + 1 - 1) (ck - 1))) (ls) vR vQ tr ⟨0, ep, eo, (b), (x), (1)⟩ by rw [hw]; exact KS.qset HK.out HEQ.out b HPb8.out.1 (by rw [← H8.out]; exact HPb8.out.2) _ _ _); clear hw; have i0 := HK.out.i0; have i1 := HK.out.i1; obtain ⟨e4, ef4⟩ := HK.out.e4; obtain ⟨r2a, rf2a⟩ := HK.out.rc 2 HE2.out a HPa2.out.1 HPa2.out.2) | ((with_reducible refine gs 3 139 ?_); refine sv (W.setCell ⟨k2, (a : Int).toNat, none⟩ (.int .i64 (x))) ?_; intro W hw; clear i0 i1 e4 ef4 r2a rf2a; replace HK := am (show KS w W lo b4 b6 b7 b8 b9 P ⟨21, a, b, c⟩ nc g (up g (12 + b.toNat) (.slice AC (t.length + 1 - 1) (ck - 1))) (st (ls) 2 a (x)) vR vQ tr ⟨0, ep, eo, (b), (x), (1)⟩ by rw [hw]; exact KS.put HK.out 2 HE2.out a (x)); clear hw; have i0 := HK.out.i0))
  have HONE : Aside0 ((sCells P g vR vQ tr).all (·.oneCell') = true) := ⟨by rw [← show sCells P (up g (12 + b.toNat) (.slice AC (t.length + 1 - 1) (ck - 1))) vR vQ tr = sCells P g vR vQ tr from (sCells_up P g _ _ _ _ _ (Or.inr (Nat.le_add_right _ _)))]; exact sOne _ (HK.out.ws.rs (show Seen g (up g (12 + b.toNat) (.slice AC (t.length + 1 - 1) (ck - 1))) (st (ls) 2 a (x)) (st (up ls (12 + b.toNat) t) 2 a x) by rw [← st_up _ _ _ 2 a x (by decide)]; exact seen_cut HEK.out HAC.out (by rw [st_at _ _ _ _ (by omega)]; exact HZ.out))) HC.out HT.out⟩
  replace HK := am HK.out.drew
  refine sa 5 (fun w' => w'.heap[b4]? = some (.cells (sCells P g vR vQ tr) 70 (0, 0)) ∧ w'.heap[b7]? = some (.cells (eCells ⟨0, ep, eo, (b), (x), (1)⟩) 75 (0, 0))) tailT63 (⟨HK.out.x4, HK.out.x7⟩) [3] (fun HT_ hHeld => ?_)
  generalize W.drew = W at hHeld HK ⊢
  refine ta 0 151 HT_ hHeld (v := (.agg (sCells P g vR vQ tr))) ?_ ?_
  · exact fun w' hS' => exec_load_row 70 (.tmp 4) rfl b4 rfl 70 (sCells P g vR vQ tr) (0, 0) _ hS'.1 Try.underlying70 rfl size70
  refine ta 1 152 HT_ hHeld (v := (.agg (eCells ⟨0, ep, eo, (b), (x), (1)⟩))) ?_ ?_
  · exact fun w' hS' => exec_load_row 75 (.tmp 7) rfl b7 rfl 75 (eCells ⟨0, ep, eo, (b), (x), (1)⟩) (0, 0) _ hS'.2 Try.underlying75 rfl size75
  refine on 2 (none) HT_ (fun K hK => ?_)
  refine skip_ (w1 := W.setRow b8 (sCells P g vR vQ tr)) (by rfl) rfl (exec_store_row 70 (.tmp 8) (.tmp 151) rfl b8 (sCells P g vR vQ tr) rfl rfl 70 _ HK.out.x8 size70 rfl HONE.out) ?_
  refine hK.out _ _ (⟨(setRow_other _ _ _ _ HK.out.n48).trans hHeld.1, (setRow_other _ _ _ _ (blk_ne HK.out.x7 HK.out.x8 (by decide))).trans hHeld.2⟩) (fun hHeld => ?_)
  clear hK K
  refine la 3 (none) HT_ (fun K hK => ?_)
  refine skip_ (w1 := (W.setRow b8 (sCells P g vR vQ tr)).setRow b9 (eCells ⟨0, ep, eo, (b), (x), (1)⟩)) (by rfl) rfl (exec_store_row 75 (.tmp 9) (.tmp 152) rfl b9 (eCells ⟨0, ep, eo, (b), (x), (1)⟩) rfl rfl 75 _ ((setRow_other _ _ _ _ (Ne.symm HK.out.n89)).trans HK.out.x9) size75 rfl (eOne _)) ?_
  refine hK.out _ _ ?_
  clear hK K
  refine pu 4 10 HT_ ?_
  refine dn HT_ ?_
  go_wp2
  obtain ⟨f1, f2, f3⟩ := KS.fin HK.out rfl (show Seen g (up g (12 + b.toNat) (.slice AC (t.length + 1 - 1) (ck - 1))) (st (ls) 2 a (x)) (st (up ls (12 + b.toNat) t) 2 a x) by rw [← st_up _ _ _ 2 a x (by decide)]; exact seen_cut HEK.out HAC.out (by rw [st_at _ _ _ _ (by omega)]; exact HZ.out)) (sCells_up P g _ _ _ _ _ (Or.inr (Nat.le_add_right _ _)))
  refine results3 rfl b8 b9 _ _ true f2 f3 ?hp ?hq ?hr ?hd f1
  case hp => rfl
  case hq => rfl
  case hr => rfl
  case hd => rfl
set_option maxHeartbeats 16000000 in
set_option maxRecDepth 100000 in
theorem taken21b (P : PV) (g : Nat → Value) (ls : Nat → List Int) (vR vQ : Value) (nc n : Nat) (tr : Int) (a b c ep eo eb : Int) (w : World) (lo : Nat) (h : WF w lo g g ls vR vQ nc) (hlo : lo ≤ w.heap.size) (hok : okI n ls ⟨21, a, b, c⟩) (h2 : (ls 2).length = 4) (h8 : (ls 8).length = nc) (hC : P.vC.oneCell' = true) (hT : P.vT.oneCell' = true) (hz : ls (12 + b.toNat) = []) (hk : rd (ls 8) b = 1) :
    Calls Try.prog 63 #[.agg (sCells P g vR vQ tr), .int .i64 0, .agg (iCells ⟨21, a, b, c⟩), .agg (eCells ⟨0, ep, eo, eb, 0, 0⟩)] w (RetS w lo nc P (st ls 2 a 0) (tr)) := by
  have HWS := am h
  have HLO := am hlo
  have HOK := am hok
  have H2 := am h2
  have H8 := am h8
  have HC := am hC
  have HT := am hT
  clear h hlo hok h2 h8 hC hT
  obtain ⟨rR, cR, eR⟩ : ∃ k c, vR = .slice (some ⟨k, 0, none⟩) 1 c := by
    obtain ⟨x, hr, _⟩ := HWS.out.r
    obtain ⟨k, c, e, _⟩ := outer_at hr 0 (Int.le_refl _) (by simp)
    exact ⟨k, c, e⟩
  obtain ⟨k2, c2, e2, _⟩ := HWS.out.at 2 0 (Int.le_refl _) (by rw [H2.out]; decide)
  rw [H2.out] at e2
  have HER := am eR
  have HE2 := am e2
  clear e2 eR
  obtain ⟨q0, q1⟩ := HOK.out.a2 (by simp)
  rw [H2.out] at q1
  replace q0 : 0 ≤ a := q0
  replace q1 : a < (4 : Int) := q1
  have HPa2 : Aside0 (0 ≤ a ∧ a < ((4 : Nat) : Int)) := ⟨⟨q0, q1⟩⟩
  have ta0 := eq_true q0
  have ta21 := eq_true q1
  clear q0 q1
  obtain ⟨q0, q1⟩ := HOK.out.q2 (by simp)
  replace q0 : 0 ≤ b := q0
  replace q1 : b < ((ls 8).length : Int) := q1
  obtain ⟨k8, c8, e8, _⟩ := HWS.out.at 8 b q0 q1
  have HE8 := am e8
  clear e8
  have HPb8 := am (And.intro q0 q1)
  have tb0 := eq_true q0
  have tb81 := eq_true q1
  clear q0 q1
  have HZ := am hz
  clear hz
  obtain ⟨kQ, cQ, eQ, _⟩ := HWS.out.qc b HPb8.out.1 (by rw [← H8.out]; exact HPb8.out.2)
  have HEQ := am eQ
  clear eQ
  have tbn := eq_true (show b < (nc : Int) by rw [← H8.out]; exact HPb8.out.2)
  obtain ⟨Ak, ck, ek⟩ := row_len (HWS.out.ms.row (12 + b.toNat))
  rw [HZ.out, List.length_nil] at ek
  have HEK := am ek
  clear ek
  go_enter Try.func63, Try.ntmps63
  go_wp2_with (first | ((with_reducible refine gd 4 ?_); refine bx 4 (sCells P g vR vQ tr) 70 ?_; intro b4 q4g W1 q4x q4b) | ((with_reducible refine gd 6 ?_); refine bx 6 (iCells ⟨21, a, b, c⟩) 33 ?_; intro b6 q6g W2 q6x q6b) | ((with_reducible refine gd 7 ?_); refine bx 7 (eCells ⟨0, ep, eo, eb, 0, 0⟩) 75 ?_; intro b7 q7g W3 q7x q7b) | ((with_reducible refine gd 8 ?_); refine bx 8 (zCells) 70 ?_; intro b8 q8g W4 q8x q8b) | ((with_reducible refine gd 9 ?_); refine bx 9 (zE) 75 ?_; intro b9 q9g W q9x q9b; have HK := am (show KS w W lo b4 b6 b7 b8 b9 P ⟨21, a, b, c⟩ nc g g (ls) vR vQ tr ⟨0, ep, eo, eb, 0, 0⟩ from ks_begin HWS.out HLO.out q4g q4x q4b q6g q6x q6b q7g q7x q7b q8g q8x q8b q9g q9x q9b); clear q4g q4x q4b q6g q6x q6b q7g q7x q7b q8g q8x q8b q9g q9x q9b W1 W2 W3 W4; have x9 := HK.out.vrc; have xr := HK.out.r2c HER.out; rw [HER.out] at x9; rw [HE2.out] at xr; have i2 := HK.out.i2; obtain ⟨e3, ef3⟩ := HK.out.e3; have i0 := HK.out.i0) | ((with_reducible refine gs 3 19 ?_); refine sv (W.setCell ⟨b7, 3, none⟩ (.int .i64 (b))) ?_; intro W hw; clear i2 e3 ef3 i0; replace HK := am (show KS w W lo b4 b6 b7 b8 b9 P ⟨21, a, b, c⟩ nc g g (ls) vR vQ tr ⟨0, ep, eo, (b), 0, 0⟩ by rw [hw]; exact KS.evs HK.out 3 (.int .i64 (b)) rfl); clear hw; have i0 := HK.out.i0; have i2 := HK.out.i2; have s14 := Box.at14 HK.out.x4; rw [HE8.out] at s14; obtain ⟨r8b, rf8b⟩ := HK.out.rc 8 HE8.out b HPb8.out.1 HPb8.out.2; have s13 := Box.at13 HK.out.x4; rw [HEQ.out] at s13; obtain ⟨qc, qf⟩ := HK.out.qc HEQ.out b HPb8.out.1 (by rw [← H8.out]; exact HPb8.out.2); rw [HEK.out] at qc; rw [hk] at r8b; obtain ⟨e5, ef5⟩ := HK.out.e5; clear x9 xr) | ((with_reducible refine gs 3 133 ?_); refine sv (W.setCell ⟨b7, 5, none⟩ (.int .i64 (2))) ?_; intro W hw; clear s13 qc qf i0 i2 s14 r8b rf8b e5 ef5; replace HK := am (show KS w W lo b4 b6 b7 b8 b9 P ⟨21, a, b, c⟩ nc g g (ls) vR vQ tr ⟨0, ep, eo, (b), 0, (2)⟩ by rw [hw]; exact KS.evs HK.out 5 (.int .i64 (2)) rfl); clear hw; have i0 := HK.out.i0; have i1 := HK.out.i1; obtain ⟨e4, ef4⟩ := HK.out.e4; obtain ⟨r2a, rf2a⟩ := HK.out.rc 2 HE2.out a HPa2.out.1 HPa2.out.2) | ((with_reducible refine gs 3 139 ?_); refine sv (W.setCell ⟨k2, (a : Int).toNat, none⟩ (.int .i64 (0))) ?_; intro W hw; clear i0 i1 e4 ef4 r2a rf2a; replace HK := am (show KS w W lo b4 b6 b7 b8 b9 P ⟨21, a, b, c⟩ nc g g (st (ls) 2 a (0)) vR vQ tr ⟨0, ep, eo, (b), 0, (2)⟩ by rw [hw]; exact KS.put HK.out 2 HE2.out a (0)); clear hw; have i0 := HK.out.i0))
  have HONE : Aside0 ((sCells P g vR vQ tr).all (·.oneCell') = true) := ⟨by rw [← show sCells P g vR vQ tr = sCells P g vR vQ tr from rfl]; exact sOne _ (HK.out.ws.rs (Seen.refl g _)) HC.out HT.out⟩
  replace HK := am HK.out.drew
  refine sa 5 (fun w' => w'.heap[b4]? = some (.cells (sCells P g vR vQ tr) 70 (0, 0)) ∧ w'.heap[b7]? = some (.cells (eCells ⟨0, ep, eo, (b), 0, (2)⟩) 75 (0, 0))) tailT63 (⟨HK.out.x4, HK.out.x7⟩) [3] (fun HT_ hHeld => ?_)
  generalize W.drew = W at hHeld HK ⊢
  refine ta 0 151 HT_ hHeld (v := (.agg (sCells P g vR vQ tr))) ?_ ?_
  · exact fun w' hS' => exec_load_row 70 (.tmp 4) rfl b4 rfl 70 (sCells P g vR vQ tr) (0, 0) _ hS'.1 Try.underlying70 rfl size70
  refine ta 1 152 HT_ hHeld (v := (.agg (eCells ⟨0, ep, eo, (b), 0, (2)⟩))) ?_ ?_
  · exact fun w' hS' => exec_load_row 75 (.tmp 7) rfl b7 rfl 75 (eCells ⟨0, ep, eo, (b), 0, (2)⟩) (0, 0) _ hS'.2 Try.underlying75 rfl size75
  refine on 2 (none) HT_ (fun K hK => ?_)
  refine skip_ (w1 := W.setRow b8 (sCells P g vR vQ tr)) (by rfl) rfl (exec_store_row 70 (.tmp 8) (.tmp 151) rfl b8 (sCells P g vR vQ tr) rfl rfl 70 _ HK.out.x8 size70 rfl HONE.out) ?_
  refine hK.out _ _ (⟨(setRow_other _ _ _ _ HK.out.n48).trans hHeld.1, (setRow_other _ _ _ _ (blk_ne HK.out.x7 HK.out.x8 (by decide))).trans hHeld.2⟩) (fun hHeld => ?_)
  clear hK K
  refine la 3 (none) HT_ (fun K hK => ?_)
  refine skip_ (w1 := (W.setRow b8 (sCells P g vR vQ tr)).setRow b9 (eCells ⟨0, ep, eo, (b), 0, (2)⟩)) (by rfl) rfl (exec_store_row 75 (.tmp 9) (.tmp 152) rfl b9 (eCells ⟨0, ep, eo, (b), 0, (2)⟩) rfl rfl 75 _ ((setRow_other _ _ _ _ (Ne.symm HK.out.n89)).trans HK.out.x9) size75 rfl (eOne _)) ?_
  refine hK.out _ _ ?_
  clear hK K
  refine pu 4 10 HT_ ?_
  refine dn HT_ ?_
  go_wp2
  obtain ⟨f1, f2, f3⟩ := KS.fin HK.out rfl (Seen.refl g _) rfl
  refine results3 rfl b8 b9 _ _ true f2 f3 ?hp ?hq ?hr ?hd f1
  case hp => rfl
  case hq => rfl
  case hr => rfl
  case hd => rfl
set_option maxHeartbeats 16000000 in
set_option maxRecDepth 100000 in
theorem taken21c (P : PV) (g : Nat → Value) (ls : Nat → List Int) (vR vQ : Value) (nc n : Nat) (tr : Int) (a b c ep eo eb : Int) (w : World) (lo : Nat) (h : WF w lo g g ls vR vQ nc) (hlo : lo ≤ w.heap.size) (hok : okI n ls ⟨21, a, b, c⟩) (h2 : (ls 2).length = 4) (h8 : (ls 8).length = nc) (hC : P.vC.oneCell' = true) (hT : P.vT.oneCell' = true) (hz : ls (12 + b.toNat) = []) (hk : (rd (ls 8) b == 1) = false) :
    Calls Try.prog 63 #[.agg (sCells P g vR vQ tr), .int .i64 0, .agg (iCells ⟨21, a, b, c⟩), .agg (eCells ⟨0, ep, eo, eb, 0, 0⟩)] w (RetS w lo nc P (st ls 2 a 0) (tr)) := by
  have HWS := am h
  have HLO := am hlo
  have HOK := am hok
  have H2 := am h2
  have H8 := am h8
  have HC := am hC
  have HT := am hT
  clear h hlo hok h2 h8 hC hT
  obtain ⟨rR, cR, eR⟩ : ∃ k c, vR = .slice (some ⟨k, 0, none⟩) 1 c := by
    obtain ⟨x, hr, _⟩ := HWS.out.r
    obtain ⟨k, c, e, _⟩ := outer_at hr 0 (Int.le_refl _) (by simp)
    exact ⟨k, c, e⟩
  obtain ⟨k2, c2, e2, _⟩ := HWS.out.at 2 0 (Int.le_refl _) (by rw [H2.out]; decide)
  rw [H2.out] at e2
  have HER := am eR
  have HE2 := am e2
  clear e2 eR
  obtain ⟨q0, q1⟩ := HOK.out.a2 (by simp)
  rw [H2.out] at q1
  replace q0 : 0 ≤ a := q0
  replace q1 : a < (4 : Int) := q1
  have HPa2 : Aside0 (0 ≤ a ∧ a < ((4 : Nat) : Int)) := ⟨⟨q0, q1⟩⟩
  have ta0 := eq_true q0
  have ta21 := eq_true q1
  clear q0 q1
  obtain ⟨q0, q1⟩ := HOK.out.q2 (by simp)
  replace q0 : 0 ≤ b := q0
  replace q1 : b < ((ls 8).length : Int) := q1
  obtain ⟨k8, c8, e8, _⟩ := HWS.out.at 8 b q0 q1
  have HE8 := am e8
  clear e8
  have HPb8 := am (And.intro q0 q1)
  have tb0 := eq_true q0
  have tb81 := eq_true q1
  clear q0 q1
  have HZ := am hz
  clear hz
  obtain ⟨kQ, cQ, eQ, _⟩ := HWS.out.qc b HPb8.out.1 (by rw [← H8.out]; exact HPb8.out.2)
  have HEQ := am eQ
  clear eQ
  have tbn := eq_true (show b < (nc : Int) by rw [← H8.out]; exact HPb8.out.2)
  obtain ⟨Ak, ck, ek⟩ := row_len (HWS.out.ms.row (12 + b.toNat))
  rw [HZ.out, List.length_nil] at ek
  have HEK := am ek
  clear ek
  go_enter Try.func63, Try.ntmps63
  go_wp2_with (first | ((with_reducible refine gd 4 ?_); refine bx 4 (sCells P g vR vQ tr) 70 ?_; intro b4 q4g W1 q4x q4b) | ((with_reducible refine gd 6 ?_); refine bx 6 (iCells ⟨21, a, b, c⟩) 33 ?_; intro b6 q6g W2 q6x q6b) | ((with_reducible refine gd 7 ?_); refine bx 7 (eCells ⟨0, ep, eo, eb, 0, 0⟩) 75 ?_; intro b7 q7g W3 q7x q7b) | ((with_reducible refine gd 8 ?_); refine bx 8 (zCells) 70 ?_; intro b8 q8g W4 q8x q8b) | ((with_reducible refine gd 9 ?_); refine bx 9 (zE) 75 ?_; intro b9 q9g W q9x q9b; have HK := am (show KS w W lo b4 b6 b7 b8 b9 P ⟨21, a, b, c⟩ nc g g (ls) vR vQ tr ⟨0, ep, eo, eb, 0, 0⟩ from ks_begin HWS.out HLO.out q4g q4x q4b q6g q6x q6b q7g q7x q7b q8g q8x q8b q9g q9x q9b); clear q4g q4x q4b q6g q6x q6b q7g q7x q7b q8g q8x q8b q9g q9x q9b W1 W2 W3 W4; have x9 := HK.out.vrc; have xr := HK.out.r2c HER.out; rw [HER.out] at x9; rw [HE2.out] at xr; have i2 := HK.out.i2; obtain ⟨e3, ef3⟩ := HK.out.e3; have i0 := HK.out.i0) | ((with_reducible refine gs 3 19 ?_); refine sv (W.setCell ⟨b7, 3, none⟩ (.int .i64 (b))) ?_; intro W hw; clear i2 e3 ef3 i0; replace HK := am (show KS w W lo b4 b6 b7 b8 b9 P ⟨21, a, b, c⟩ nc g g (ls) vR vQ tr ⟨0, ep, eo, (b), 0, 0⟩ by rw [hw]; exact KS.evs HK.out 3 (.int .i64 (b)) rfl); clear hw; have i0 := HK.out.i0; have i2 := HK.out.i2; have s14 := Box.at14 HK.out.x4; rw [HE8.out] at s14; obtain ⟨r8b, rf8b⟩ := HK.out.rc 8 HE8.out b HPb8.out.1 HPb8.out.2; have s13 := Box.at13 HK.out.x4; rw [HEQ.out] at s13; obtain ⟨qc, qf⟩ := HK.out.qc HEQ.out b HPb8.out.1 (by rw [← H8.out]; exact HPb8.out.2); rw [HEK.out] at qc; have i1 := HK.out.i1; obtain ⟨e4, ef4⟩ := HK.out.e4; obtain ⟨r2a, rf2a⟩ := HK.out.rc 2 HE2.out a HPa2.out.1 HPa2.out.2; clear x9 xr) | ((with_reducible refine gs 3 139 ?_); refine sv (W.setCell ⟨k2, (a : Int).toNat, none⟩ (.int .i64 (0))) ?_; intro W hw; clear i0 i2 s14 r8b rf8b i1 e4 ef4 r2a rf2a; replace HK := am (show KS w W lo b4 b6 b7 b8 b9 P ⟨21, a, b, c⟩ nc g g (st (ls) 2 a (0)) vR vQ tr ⟨0, ep, eo, (b), 0, 0⟩ by rw [hw]; exact KS.put HK.out 2 HE2.out a (0)); clear hw; have i0 := HK.out.i0))
  have HONE : Aside0 ((sCells P g vR vQ tr).all (·.oneCell') = true) := ⟨by rw [← show sCells P g vR vQ tr = sCells P g vR vQ tr from rfl]; exact sOne _ (HK.out.ws.rs (Seen.refl g _)) HC.out HT.out⟩
  replace HK := am HK.out.drew
  refine sa 5 (fun w' => w'.heap[b4]? = some (.cells (sCells P g vR vQ tr) 70 (0, 0)) ∧ w'.heap[b7]? = some (.cells (eCells ⟨0, ep, eo, (b), 0, 0⟩) 75 (0, 0))) tailT63 (⟨HK.out.x4, HK.out.x7⟩) [3] (fun HT_ hHeld => ?_)
  generalize W.drew = W at hHeld HK ⊢
  refine ta 0 151 HT_ hHeld (v := (.agg (sCells P g vR vQ tr))) ?_ ?_
  · exact fun w' hS' => exec_load_row 70 (.tmp 4) rfl b4 rfl 70 (sCells P g vR vQ tr) (0, 0) _ hS'.1 Try.underlying70 rfl size70
  refine ta 1 152 HT_ hHeld (v := (.agg (eCells ⟨0, ep, eo, (b), 0, 0⟩))) ?_ ?_
  · exact fun w' hS' => exec_load_row 75 (.tmp 7) rfl b7 rfl 75 (eCells ⟨0, ep, eo, (b), 0, 0⟩) (0, 0) _ hS'.2 Try.underlying75 rfl size75
  refine on 2 (none) HT_ (fun K hK => ?_)
  refine skip_ (w1 := W.setRow b8 (sCells P g vR vQ tr)) (by rfl) rfl (exec_store_row 70 (.tmp 8) (.tmp 151) rfl b8 (sCells P g vR vQ tr) rfl rfl 70 _ HK.out.x8 size70 rfl HONE.out) ?_
  refine hK.out _ _ (⟨(setRow_other _ _ _ _ HK.out.n48).trans hHeld.1, (setRow_other _ _ _ _ (blk_ne HK.out.x7 HK.out.x8 (by decide))).trans hHeld.2⟩) (fun hHeld => ?_)
  clear hK K
  refine la 3 (none) HT_ (fun K hK => ?_)
  refine skip_ (w1 := (W.setRow b8 (sCells P g vR vQ tr)).setRow b9 (eCells ⟨0, ep, eo, (b), 0, 0⟩)) (by rfl) rfl (exec_store_row 75 (.tmp 9) (.tmp 152) rfl b9 (eCells ⟨0, ep, eo, (b), 0, 0⟩) rfl rfl 75 _ ((setRow_other _ _ _ _ (Ne.symm HK.out.n89)).trans HK.out.x9) size75 rfl (eOne _)) ?_
  refine hK.out _ _ ?_
  clear hK K
  refine pu 4 10 HT_ ?_
  refine dn HT_ ?_
  go_wp2
  obtain ⟨f1, f2, f3⟩ := KS.fin HK.out rfl (Seen.refl g _) rfl
  refine results3 rfl b8 b9 _ _ true f2 f3 ?hp ?hq ?hr ?hd f1
  case hp => rfl
  case hq => rfl
  case hr => rfl
  case hd => rfl
set_option maxHeartbeats 16000000 in
set_option maxRecDepth 100000 in
theorem taken22a (P : PV) (g : Nat → Value) (ls : Nat → List Int) (vR vQ : Value) (nc n : Nat) (tr : Int) (a b c ep eo eb : Int) (w : World) (lo : Nat) (h : WF w lo g g ls vR vQ nc) (hlo : lo ≤ w.heap.size) (hok : okI n ls ⟨22, a, b, c⟩) (h2 : (ls 2).length = 4) (h8 : (ls 8).length = nc) (hC : P.vC.oneCell' = true) (hT : P.vT.oneCell' = true) (x : Int) (t : List Int) (hz : ls (12 + b.toNat) = x :: t) :
    Calls Try.prog 63 #[.agg (sCells P g vR vQ tr), .int .i64 0, .agg (iCells ⟨22, a, b, c⟩), .agg (eCells ⟨0, ep, eo, eb, 0, 0⟩)] w (RetS w lo nc P (st (st (up ls (12 + b.toNat) t) 2 a x) 2 c 1) (tr)) := by
  have HWS := am h
  have HLO := am hlo
  have HOK := am hok
  have H2 := am h2
  have H8 := am h8
  have HC := am hC
  have HT := am hT
  clear h hlo hok h2 h8 hC hT
  obtain ⟨rR, cR, eR⟩ : ∃ k c, vR = .slice (some ⟨k, 0, none⟩) 1 c := by
    obtain ⟨x, hr, _⟩ := HWS.out.r
    obtain ⟨k, c, e, _⟩ := outer_at hr 0 (Int.le_refl _) (by simp)
    exact ⟨k, c, e⟩
  obtain ⟨k2, c2, e2, _⟩ := HWS.out.at 2 0 (Int.le_refl _) (by rw [H2.out]; decide)
  rw [H2.out] at e2
  have HER := am eR
  have HE2 := am e2
  clear e2 eR
  obtain ⟨q0, q1⟩ := HOK.out.a2 (by simp)
  rw [H2.out] at q1
  replace q0 : 0 ≤ a := q0
  replace q1 : a < (4 : Int) := q1
  have HPa2 : Aside0 (0 ≤ a ∧ a < ((4 : Nat) : Int)) := ⟨⟨q0, q1⟩⟩
  have ta0 := eq_true q0
  have ta21 := eq_true q1
  clear q0 q1
  obtain ⟨q0, q1⟩ := HOK.out.q2 (by simp)
  replace q0 : 0 ≤ b := q0
  replace q1 : b < ((ls 8).length : Int) := q1
  obtain ⟨k8, c8, e8, _⟩ := HWS.out.at 8 b q0 q1
  have HE8 := am e8
  clear e8
  have HPb8 := am (And.intro q0 q1)
  have tb0 := eq_true q0
  have tb81 := eq_true q1
  clear q0 q1
  obtain ⟨q0, q1⟩ := HOK.out.c2 (by simp)
  rw [H2.out] at q1
  replace q0 : 0 ≤ c := q0
  replace q1 : c < (4 : Int) := q1
  have HPc2 : Aside0 (0 ≤ c ∧ c < ((4 : Nat) : Int)) := ⟨⟨q0, q1⟩⟩
  have tc0 := eq_true q0
  have tc21 := eq_true q1
  clear q0 q1
  have HZ := am hz
  clear hz
  obtain ⟨kQ, cQ, eQ, _⟩ := HWS.out.qc b HPb8.out.1 (by rw [← H8.out]; exact HPb8.out.2)
  have HEQ := am eQ
  clear eQ
  have tbn := eq_true (show b < (nc : Int) by rw [← H8.out]; exact HPb8.out.2)
  obtain ⟨kk, ck, ek, _⟩ := HWS.out.at (12 + b.toNat) 0 (Int.le_refl _) (by rw [HZ.out, List.length_cons]; omega)
  have hck : t.length + 1 ≤ ck := by
    obtain ⟨A, c', e', h1, _⟩ := Kd.R_reads (HWS.out.ms.row (12 + b.toNat))
    rw [ek] at e'
    injection e' with _ _ e3
    rw [HZ.out, List.length_cons] at h1
    omega
  rw [HZ.out, List.length_cons] at ek
  have HEK := am ek
  clear ek
  have HCK := am hck
  clear hck
  go_enter Try.func63, Try.ntmps63
  go_wp2_with (first | ((with_reducible refine gd 4 ?_); refine bx 4 (sCells P g vR vQ tr) 70 ?_; intro b4 q4g W1 q4x q4b) | ((with_reducible refine gd 6 ?_); refine bx 6 (iCells ⟨22, a, b, c⟩) 33 ?_; intro b6 q6g W2 q6x q6b) | ((with_reducible refine gd 7 ?_); refine bx 7 (eCells ⟨0, ep, eo, eb, 0, 0⟩) 75 ?_; intro b7 q7g W3 q7x q7b) | ((with_reducible refine gd 8 ?_); refine bx 8 (zCells) 70 ?_; intro b8 q8g W4 q8x q8b) | ((with_reducible refine gd 9 ?_); refine bx 9 (zE) 75 ?_; intro b9 q9g W q9x q9b; have HK := am (show KS w W lo b4 b6 b7 b8 b9 P ⟨22, a, b, c⟩ nc g g (ls) vR vQ tr ⟨0, ep, eo, eb, 0, 0⟩ from ks_begin HWS.out HLO.out q4g q4x q4b q6g q6x q6b q7g q7x q7b q8g q8x q8b q9g q9x q9b); clear q4g q4x q4b q6g q6x q6b q7g q7x q7b q8g q8x q8b q9g q9x q9b W1 W2 W3 W4; have x9 := HK.out.vrc; have xr := HK.out.r2c HER.out; rw [HER.out] at x9; rw [HE2.out] at xr; have i2 := HK.out.i2; obtain ⟨e3, ef3⟩ := HK.out.e3; have i0 := HK.out.i0) | ((with_reducible refine gs 3 19 ?_); refine sv (W.setCell ⟨b7, 3, none⟩ (.int .i64 (b))) ?_; intro W hw; clear i2 e3 ef3 i0; replace HK := am (show KS w W lo b4 b6 b7 b8 b9 P ⟨22, a, b, c⟩ nc g g (ls) vR vQ tr ⟨0, ep, eo, (b), 0, 0⟩ by rw [hw]; exact KS.evs HK.out 3 (.int .i64 (b)) rfl); clear hw; have i0 := HK.out.i0; have i2 := HK.out.i2; have s13 := Box.at13 HK.out.x4; rw [HEQ.out] at s13; obtain ⟨qc, qf⟩ := HK.out.qc HEQ.out b HPb8.out.1 (by rw [← H8.out]; exact HPb8.out.2); rw [HEK.out] at qc; obtain ⟨e5, ef5⟩ := HK.out.e5; clear x9 xr) | ((with_reducible refine gs 3 104 ?_); refine sv (W.setCell ⟨b7, 5, none⟩ (.int .i64 (1))) ?_; intro W hw; clear s13 qc qf i0 i2 e5 ef5; replace HK := am (show KS w W lo b4 b6 b7 b8 b9 P ⟨22, a, b, c⟩ nc g g (ls) vR vQ tr ⟨0, ep, eo, (b), 0, (1)⟩ by rw [hw]; exact KS.evs HK.out 5 (.int .i64 (1)) rfl); clear hw; have i2 := HK.out.i2; obtain ⟨e4, ef4⟩ := HK.out.e4; have s13 := Box.at13 HK.out.x4; rw [HEQ.out] at s13; obtain ⟨qc, qf⟩ := HK.out.qc HEQ.out b HPb8.out.1 (by rw [← H8.out]; exact HPb8.out.2); rw [HEK.out] at qc; have rq : W.cell? ⟨kk, 0, none⟩ = some (.int .i64 x) := by (have h := (HK.out.rc (12 + b.toNat) HEK.out 0 (Int.le_refl _) (by omega)).1; rw [HZ.out] at h; exact h)) | ((with_reducible refine gs 3 113 ?_); refine sv (W.setCell ⟨b7, 4, none⟩ (.int .i64 (x))) ?_; intro W hw; clear s13 qc qf rq i2 e4 ef4; replace HK := am (show KS w W lo b4 b6 b7 b8 b9 P ⟨22, a, b, c⟩ nc g g (ls) vR vQ tr ⟨0, ep, eo, (b), (x), (1)⟩ by rw [hw]; exact KS.evs HK.out 4 (.int .i64 (x)) rfl); clear hw; have i2 := HK.out.i2; have s13 := Box.at13 HK.out.x4; rw [HEQ.out] at s13; obtain ⟨qc, qf⟩ := HK.out.qc HEQ.out b HPb8.out.1 (by rw [← H8.out]; exact HPb8.out.2); rw [HEK.out] at qc))
  have hck1 := HCK.out
  obtain ⟨AC, hAC, hcut⟩ := cut_one kk (t.length + 1) ck (by omega) hck1
  have HAC := am hAC
  clear hAC hck1
  go_still_tail 12, (by kernel_rfl)
  change wpList _ _ _ _ _ W.drew
  replace HK := am HK.out.drew
  generalize W.drew = W at HK ⊢
  try simp only [i64_w]
  clear i2
  clear s13 qc qf
  obtain ⟨qc, qf⟩ := HK.out.qc HEQ.out b HPb8.out.1 (by rw [← H8.out]; exact HPb8.out.2)
  rw [HEK.out] at qc
  go_wp2_with (first | ((with_reducible refine gs 23 125 ?_); refine sv (W.setCell ⟨kQ, b.toNat, none⟩ (.slice AC (t.length + 1 - 1) (ck - 1))) ?_; intro W hw; clear qc qf; replace HK := am (show KS w W lo b4 b6 b7 b8 b9 P ⟨22, a, b, c⟩ nc g (up g (12 + b.toNat) (.slice AC (t.length + 1 - 1) (ck - 1))) (ls) vR vQ tr ⟨0, ep, eo, (b), (x), (1)⟩ by rw [hw]; exact KS.qset HK.out HEQ.out b HPb8.out.1 (by rw [← H8.out]; exact HPb8.out.2) _ _ _); clear hw; have i0 := HK.out.i0; have i1 := HK.out.i1; obtain ⟨e4, ef4⟩ := HK.out.e4; obtain ⟨r2a, rf2a⟩ := HK.out.rc 2 HE2.out a HPa2.out.1 HPa2.out.2) | ((with_reducible refine gs 3 139 ?_); refine sv (W.setCell ⟨k2, (a : Int).toNat, none⟩ (.int .i64 (x))) ?_; intro W hw; clear i0 i1 e4 ef4 r2a rf2a; replace HK := am (show KS w W lo b4 b6 b7 b8 b9 P ⟨22, a, b, c⟩ nc g (up g (12 + b.toNat) (.slice AC (t.length + 1 - 1) (ck - 1))) (st (ls) 2 a (x)) vR vQ tr ⟨0, ep, eo, (b), (x), (1)⟩ by rw [hw]; exact KS.put HK.out 2 HE2.out a (x)); clear hw; have i0 := HK.out.i0; have i3 := HK.out.i3; obtain ⟨e5, ef5⟩ := HK.out.e5))
  obtain ⟨r2c, rf2c⟩ := HK.out.rc 2 HE2.out c HPc2.out.1 HPc2.out.2
  refine wp_region_still_tail 8 (by kernel_rfl) (by kernel_rfl) ?_
  simp only [List.take_succ_cons, List.take_zero, List.drop_succ_cons, List.drop_zero]
  iterate 6 still_step
  still_call (number_any _ _)
  iterate 1 still_step
  refine wpStill_nil ?_
  change wpList _ _ _ _ _ W.drew
  replace HK := am HK.out.drew
  generalize W.drew = W at HK ⊢
  try simp only [i64_w]
  clear i0 i3 e5 ef5
  clear r2c rf2c
  obtain ⟨r2c, rf2c⟩ := HK.out.rc 2 HE2.out c HPc2.out.1 HPc2.out.2
  go_wp2_with (first | ((with_reducible refine gs 3 150 ?_); refine sv (W.setCell ⟨k2, (c : Int).toNat, none⟩ (.int .i64 (1))) ?_; intro W hw; replace HK := am (show KS w W lo b4 b6 b7 b8 b9 P ⟨22, a, b, c⟩ nc g (up g (12 + b.toNat) (.slice AC (t.length + 1 - 1) (ck - 1))) (st (st (ls) 2 a (x)) 2 c (1)) vR vQ tr ⟨0, ep, eo, (b), (x), (1)⟩ by rw [hw]; exact KS.put HK.out 2 HE2.out c (1)); clear hw))
  have HONE : Aside0 ((sCells P g vR vQ tr).all (·.oneCell') = true) := ⟨by rw [← show sCells P (up g (12 + b.toNat) (.slice AC (t.length + 1 - 1) (ck - 1))) vR vQ tr = sCells P g vR vQ tr from (sCells_up P g _ _ _ _ _ (Or.inr (Nat.le_add_right _ _)))]; exact sOne _ (HK.out.ws.rs (show Seen g (up g (12 + b.toNat) (.slice AC (t.length + 1 - 1) (ck - 1))) (st (st (ls) 2 a (x)) 2 c (1)) (st (st (up ls (12 + b.toNat) t) 2 a x) 2 c 1) by rw [← st_up _ _ _ 2 a x (by decide), ← st_up _ _ _ 2 c 1 (by decide)]; exact seen_cut HEK.out HAC.out (by rw [st_at _ _ _ _ (by omega), st_at _ _ _ _ (by omega)]; exact HZ.out))) HC.out HT.out⟩
  replace HK := am HK.out.drew
  refine sa 5 (fun w' => w'.heap[b4]? = some (.cells (sCells P g vR vQ tr) 70 (0, 0)) ∧ w'.heap[b7]? = some (.cells (eCells ⟨0, ep, eo, (b), (x), (1)⟩) 75 (0, 0))) tailT63 (⟨HK.out.x4, HK.out.x7⟩) [3] (fun HT_ hHeld => ?_)
  generalize W.drew = W at hHeld HK ⊢
  refine ta 0 151 HT_ hHeld (v := (.agg (sCells P g vR vQ tr))) ?_ ?_
  · exact fun w' hS' => exec_load_row 70 (.tmp 4) rfl b4 rfl 70 (sCells P g vR vQ tr) (0, 0) _ hS'.1 Try.underlying70 rfl size70
  refine ta 1 152 HT_ hHeld (v := (.agg (eCells ⟨0, ep, eo, (b), (x), (1)⟩))) ?_ ?_
  · exact fun w' hS' => exec_load_row 75 (.tmp 7) rfl b7 rfl 75 (eCells ⟨0, ep, eo, (b), (x), (1)⟩) (0, 0) _ hS'.2 Try.underlying75 rfl size75
  refine on 2 (none) HT_ (fun K hK => ?_)
  refine skip_ (w1 := W.setRow b8 (sCells P g vR vQ tr)) (by rfl) rfl (exec_store_row 70 (.tmp 8) (.tmp 151) rfl b8 (sCells P g vR vQ tr) rfl rfl 70 _ HK.out.x8 size70 rfl HONE.out) ?_
  refine hK.out _ _ (⟨(setRow_other _ _ _ _ HK.out.n48).trans hHeld.1, (setRow_other _ _ _ _ (blk_ne HK.out.x7 HK.out.x8 (by decide))).trans hHeld.2⟩) (fun hHeld => ?_)
  clear hK K
  refine la 3 (none) HT_ (fun K hK => ?_)
  refine skip_ (w1 := (W.setRow b8 (sCells P g vR vQ tr)).setRow b9 (eCells ⟨0, ep, eo, (b), (x), (1)⟩)) (by rfl) rfl (exec_store_row 75 (.tmp 9) (.tmp 152) rfl b9 (eCells ⟨0, ep, eo, (b), (x), (1)⟩) rfl rfl 75 _ ((setRow_other _ _ _ _ (Ne.symm HK.out.n89)).trans HK.out.x9) size75 rfl (eOne _)) ?_
  refine hK.out _ _ ?_
  clear hK K
  refine pu 4 10 HT_ ?_
  refine dn HT_ ?_
  go_wp2
  obtain ⟨f1, f2, f3⟩ := KS.fin HK.out rfl (show Seen g (up g (12 + b.toNat) (.slice AC (t.length + 1 - 1) (ck - 1))) (st (st (ls) 2 a (x)) 2 c (1)) (st (st (up ls (12 + b.toNat) t) 2 a x) 2 c 1) by rw [← st_up _ _ _ 2 a x (by decide), ← st_up _ _ _ 2 c 1 (by decide)]; exact seen_cut HEK.out HAC.out (by rw [st_at _ _ _ _ (by omega), st_at _ _ _ _ (by omega)]; exact HZ.out)) (sCells_up P g _ _ _ _ _ (Or.inr (Nat.le_add_right _ _)))
  refine results3 rfl b8 b9 _ _ true f2 f3 ?hp ?hq ?hr ?hd f1
  case hp => rfl
  case hq => rfl
  case hr => rfl
  case hd => rfl
set_option maxHeartbeats 16000000 in
set_option maxRecDepth 100000 in
theorem taken22b (P : PV) (g : Nat → Value) (ls : Nat → List Int) (vR vQ : Value) (nc n : Nat) (tr : Int) (a b c ep eo eb : Int) (w : World) (lo : Nat) (h : WF w lo g g ls vR vQ nc) (hlo : lo ≤ w.heap.size) (hok : okI n ls ⟨22, a, b, c⟩) (h2 : (ls 2).length = 4) (h8 : (ls 8).length = nc) (hC : P.vC.oneCell' = true) (hT : P.vT.oneCell' = true) (hz : ls (12 + b.toNat) = []) (hk : rd (ls 8) b = 1) :
    Calls Try.prog 63 #[.agg (sCells P g vR vQ tr), .int .i64 0, .agg (iCells ⟨22, a, b, c⟩), .agg (eCells ⟨0, ep, eo, eb, 0, 0⟩)] w (RetS w lo nc P (st (st ls 2 a 0) 2 c 0) (tr)) := by
  have HWS := am h
  have HLO := am hlo
  have HOK := am hok
  have H2 := am h2
  have H8 := am h8
  have HC := am hC
  have HT := am hT
  clear h hlo hok h2 h8 hC hT
  obtain ⟨rR, cR, eR⟩ : ∃ k c, vR = .slice (some ⟨k, 0, none⟩) 1 c := by
    obtain ⟨x, hr, _⟩ := HWS.out.r
    obtain ⟨k, c, e, _⟩ := outer_at hr 0 (Int.le_refl _) (by simp)
    exact ⟨k, c, e⟩
  obtain ⟨k2, c2, e2, _⟩ := HWS.out.at 2 0 (Int.le_refl _) (by rw [H2.out]; decide)
  rw [H2.out] at e2
  have HER := am eR
  have HE2 := am e2
  clear e2 eR
  obtain ⟨q0, q1⟩ := HOK.out.a2 (by simp)
  rw [H2.out] at q1
  replace q0 : 0 ≤ a := q0
  replace q1 : a < (4 : Int) := q1
  have HPa2 : Aside0 (0 ≤ a ∧ a < ((4 : Nat) : Int)) := ⟨⟨q0, q1⟩⟩
  have ta0 := eq_true q0
  have ta21 := eq_true q1
  clear q0 q1
  obtain ⟨q0, q1⟩ := HOK.out.q2 (by simp)
  replace q0 : 0 ≤ b := q0
  replace q1 : b < ((ls 8).length : Int) := q1
  obtain ⟨k8, c8, e8, _⟩ := HWS.out.at 8 b q0 q1
  have HE8 := am e8
  clear e8
  have HPb8 := am (And.intro q0 q1)
  have tb0 := eq_true q0
  have tb81 := eq_true q1
  clear q0 q1
  obtain ⟨q0, q1⟩ := HOK.out.c2 (by simp)
  rw [H2.out] at q1
  replace q0 : 0 ≤ c := q0
  replace q1 : c < (4 : Int) := q1
  have HPc2 : Aside0 (0 ≤ c ∧ c < ((4 : Nat) : Int)) := ⟨⟨q0, q1⟩⟩
  have tc0 := eq_true q0
  have tc21 := eq_true q1
  clear q0 q1
  have HZ := am hz
  clear hz
  obtain ⟨kQ, cQ, eQ, _⟩ := HWS.out.qc b HPb8.out.1 (by rw [← H8.out]; exact HPb8.out.2)
  have HEQ := am eQ
  clear eQ
  have tbn := eq_true (show b < (nc : Int) by rw [← H8.out]; exact HPb8.out.2)
  obtain ⟨Ak, ck, ek⟩ := row_len (HWS.out.ms.row (12 + b.toNat))
  rw [HZ.out, List.length_nil] at ek
  have HEK := am ek
  clear ek
  go_enter Try.func63, Try.ntmps63
  go_wp2_with (first | ((with_reducible refine gd 4 ?_); refine bx 4 (sCells P g vR vQ tr) 70 ?_; intro b4 q4g W1 q4x q4b) | ((with_reducible refine gd 6 ?_); refine bx 6 (iCells ⟨22, a, b, c⟩) 33 ?_; intro b6 q6g W2 q6x q6b) | ((with_reducible refine gd 7 ?_); refine bx 7 (eCells ⟨0, ep, eo, eb, 0, 0⟩) 75 ?_; intro b7 q7g W3 q7x q7b) | ((with_reducible refine gd 8 ?_); refine bx 8 (zCells) 70 ?_; intro b8 q8g W4 q8x q8b) | ((with_reducible refine gd 9 ?_); refine bx 9 (zE) 75 ?_; intro b9 q9g W q9x q9b; have HK := am (show KS w W lo b4 b6 b7 b8 b9 P ⟨22, a, b, c⟩ nc g g (ls) vR vQ tr ⟨0, ep, eo, eb, 0, 0⟩ from ks_begin HWS.out HLO.out q4g q4x q4b q6g q6x q6b q7g q7x q7b q8g q8x q8b q9g q9x q9b); clear q4g q4x q4b q6g q6x q6b q7g q7x q7b q8g q8x q8b q9g q9x q9b W1 W2 W3 W4; have x9 := HK.out.vrc; have xr := HK.out.r2c HER.out; rw [HER.out] at x9; rw [HE2.out] at xr; have i2 := HK.out.i2; obtain ⟨e3, ef3⟩ := HK.out.e3; have i0 := HK.out.i0) | ((with_reducible refine gs 3 19 ?_); refine sv (W.setCell ⟨b7, 3, none⟩ (.int .i64 (b))) ?_; intro W hw; clear i2 e3 ef3 i0; replace HK := am (show KS w W lo b4 b6 b7 b8 b9 P ⟨22, a, b, c⟩ nc g g (ls) vR vQ tr ⟨0, ep, eo, (b), 0, 0⟩ by rw [hw]; exact KS.evs HK.out 3 (.int .i64 (b)) rfl); clear hw; have i0 := HK.out.i0; have i2 := HK.out.i2; have s14 := Box.at14 HK.out.x4; rw [HE8.out] at s14; obtain ⟨r8b, rf8b⟩ := HK.out.rc 8 HE8.out b HPb8.out.1 HPb8.out.2; have s13 := Box.at13 HK.out.x4; rw [HEQ.out] at s13; obtain ⟨qc, qf⟩ := HK.out.qc HEQ.out b HPb8.out.1 (by rw [← H8.out]; exact HPb8.out.2); rw [HEK.out] at qc; rw [hk] at r8b; obtain ⟨e5, ef5⟩ := HK.out.e5; clear x9 xr) | ((with_reducible refine gs 3 133 ?_); refine sv (W.setCell ⟨b7, 5, none⟩ (.int .i64 (2))) ?_; intro W hw; clear s13 qc qf i0 i2 s14 r8b rf8b e5 ef5; replace HK := am (show KS w W lo b4 b6 b7 b8 b9 P ⟨22, a, b, c⟩ nc g g (ls) vR vQ tr ⟨0, ep, eo, (b), 0, (2)⟩ by rw [hw]; exact KS.evs HK.out 5 (.int .i64 (2)) rfl); clear hw; have i0 := HK.out.i0; have i1 := HK.out.i1; obtain ⟨e4, ef4⟩ := HK.out.e4; obtain ⟨r2a, rf2a⟩ := HK.out.rc 2 HE2.out a HPa2.out.1 HPa2.out.2) | ((with_reducible refine gs 3 139 ?_); refine sv (W.setCell ⟨k2, (a : Int).toNat, none⟩ (.int .i64 (0))) ?_; intro W hw; clear i0 i1 e4 ef4 r2a rf2a; replace HK := am (show KS w W lo b4 b6 b7 b8 b9 P ⟨22, a, b, c⟩ nc g g (st (ls) 2 a (0)) vR vQ tr ⟨0, ep, eo, (b), 0, (2)⟩ by rw [hw]; exact KS.put HK.out 2 HE2.out a (0)); clear hw; have i0 := HK.out.i0; have i3 := HK.out.i3; obtain ⟨e5, ef5⟩ := HK.out.e5))
  obtain ⟨r2c, rf2c⟩ := HK.out.rc 2 HE2.out c HPc2.out.1 HPc2.out.2
  refine wp_region_still_tail 8 (by kernel_rfl) (by kernel_rfl) ?_
  simp only [List.take_succ_cons, List.take_zero, List.drop_succ_cons, List.drop_zero]
  iterate 6 still_step
  still_call (number_any _ _)
  iterate 1 still_step
  refine wpStill_nil ?_
  change wpList _ _ _ _ _ W.drew
  replace HK := am HK.out.drew
  generalize W.drew = W at HK ⊢
  try simp only [i64_w]
  clear i0 i3 e5 ef5
  clear r2c rf2c
  obtain ⟨r2c, rf2c⟩ := HK.out.rc 2 HE2.out c HPc2.out.1 HPc2.out.2
  go_wp2_with (first | ((with_reducible refine gs 3 150 ?_); refine sv (W.setCell ⟨k2, (c : Int).toNat, none⟩ (.int .i64 (0))) ?_; intro W hw; replace HK := am (show KS w W lo b4 b6 b7 b8 b9 P ⟨22, a, b, c⟩ nc g g (st (st (ls) 2 a (0)) 2 c (0)) vR vQ tr ⟨0, ep, eo, (b), 0, (2)⟩ by rw [hw]; exact KS.put HK.out 2 HE2.out c (0)); clear hw))
  have HONE : Aside0 ((sCells P g vR vQ tr).all (·.oneCell') = true) := ⟨by rw [← show sCells P g vR vQ tr = sCells P g vR vQ tr from rfl]; exact sOne _ (HK.out.ws.rs (Seen.refl g _)) HC.out HT.out⟩
  replace HK := am HK.out.drew
  refine sa 5 (fun w' => w'.heap[b4]? = some (.cells (sCells P g vR vQ tr) 70 (0, 0)) ∧ w'.heap[b7]? = some (.cells (eCells ⟨0, ep, eo, (b), 0, (2)⟩) 75 (0, 0))) tailT63 (⟨HK.out.x4, HK.out.x7⟩) [3] (fun HT_ hHeld => ?_)
  generalize W.drew = W at hHeld HK ⊢
  refine ta 0 151 HT_ hHeld (v := (.agg (sCells P g vR vQ tr))) ?_ ?_
  · exact fun w' hS' => exec_load_row 70 (.tmp 4) rfl b4 rfl 70 (sCells P g vR vQ tr) (0, 0) _ hS'.1 Try.underlying70 rfl size70
  refine ta 1 152 HT_ hHeld (v := (.agg (eCells ⟨0, ep, eo, (b), 0, (2)⟩))) ?_ ?_
  · exact fun w' hS' => exec_load_row 75 (.tmp 7) rfl b7 rfl 75 (eCells ⟨0, ep, eo, (b), 0, (2)⟩) (0, 0) _ hS'.2 Try.underlying75 rfl size75
  refine on 2 (none) HT_ (fun K hK => ?_)
  refine skip_ (w1 := W.setRow b8 (sCells P g vR vQ tr)) (by rfl) rfl (exec_store_row 70 (.tmp 8) (.tmp 151) rfl b8 (sCells P g vR vQ tr) rfl rfl 70 _ HK.out.x8 size70 rfl HONE.out) ?_
  refine hK.out _ _ (⟨(setRow_other _ _ _ _ HK.out.n48).trans hHeld.1, (setRow_other _ _ _ _ (blk_ne HK.out.x7 HK.out.x8 (by decide))).trans hHeld.2⟩) (fun hHeld => ?_)
  clear hK K
  refine la 3 (none) HT_ (fun K hK => ?_)
  refine skip_ (w1 := (W.setRow b8 (sCells P g vR vQ tr)).setRow b9 (eCells ⟨0, ep, eo, (b), 0, (2)⟩)) (by rfl) rfl (exec_store_row 75 (.tmp 9) (.tmp 152) rfl b9 (eCells ⟨0, ep, eo, (b), 0, (2)⟩) rfl rfl 75 _ ((setRow_other _ _ _ _ (Ne.symm HK.out.n89)).trans HK.out.x9) size75 rfl (eOne _)) ?_
  refine hK.out _ _ ?_
  clear hK K
  refine pu 4 10 HT_ ?_
  refine dn HT_ ?_
  go_wp2
  obtain ⟨f1, f2, f3⟩ := KS.fin HK.out rfl (Seen.refl g _) rfl
  refine results3 rfl b8 b9 _ _ true f2 f3 ?hp ?hq ?hr ?hd f1
  case hp => rfl
  case hq => rfl
  case hr => rfl
  case hd => rfl
set_option maxHeartbeats 16000000 in
set_option maxRecDepth 100000 in
theorem taken22c (P : PV) (g : Nat → Value) (ls : Nat → List Int) (vR vQ : Value) (nc n : Nat) (tr : Int) (a b c ep eo eb : Int) (w : World) (lo : Nat) (h : WF w lo g g ls vR vQ nc) (hlo : lo ≤ w.heap.size) (hok : okI n ls ⟨22, a, b, c⟩) (h2 : (ls 2).length = 4) (h8 : (ls 8).length = nc) (hC : P.vC.oneCell' = true) (hT : P.vT.oneCell' = true) (hz : ls (12 + b.toNat) = []) (hk : (rd (ls 8) b == 1) = false) :
    Calls Try.prog 63 #[.agg (sCells P g vR vQ tr), .int .i64 0, .agg (iCells ⟨22, a, b, c⟩), .agg (eCells ⟨0, ep, eo, eb, 0, 0⟩)] w (RetS w lo nc P (st (st ls 2 a 0) 2 c 0) (tr)) := by
  have HWS := am h
  have HLO := am hlo
  have HOK := am hok
  have H2 := am h2
  have H8 := am h8
  have HC := am hC
  have HT := am hT
  clear h hlo hok h2 h8 hC hT
  obtain ⟨rR, cR, eR⟩ : ∃ k c, vR = .slice (some ⟨k, 0, none⟩) 1 c := by
    obtain ⟨x, hr, _⟩ := HWS.out.r
    obtain ⟨k, c, e, _⟩ := outer_at hr 0 (Int.le_refl _) (by simp)
    exact ⟨k, c, e⟩
  obtain ⟨k2, c2, e2, _⟩ := HWS.out.at 2 0 (Int.le_refl _) (by rw [H2.out]; decide)
  rw [H2.out] at e2
  have HER := am eR
  have HE2 := am e2
  clear e2 eR
  obtain ⟨q0, q1⟩ := HOK.out.a2 (by simp)
  rw [H2.out] at q1
  replace q0 : 0 ≤ a := q0
  replace q1 : a < (4 : Int) := q1
  have HPa2 : Aside0 (0 ≤ a ∧ a < ((4 : Nat) : Int)) := ⟨⟨q0, q1⟩⟩
  have ta0 := eq_true q0
  have ta21 := eq_true q1
  clear q0 q1
  obtain ⟨q0, q1⟩ := HOK.out.q2 (by simp)
  replace q0 : 0 ≤ b := q0
  replace q1 : b < ((ls 8).length : Int) := q1
  obtain ⟨k8, c8, e8, _⟩ := HWS.out.at 8 b q0 q1
  have HE8 := am e8
  clear e8
  have HPb8 := am (And.intro q0 q1)
  have tb0 := eq_true q0
  have tb81 := eq_true q1
  clear q0 q1
  obtain ⟨q0, q1⟩ := HOK.out.c2 (by simp)
  rw [H2.out] at q1
  replace q0 : 0 ≤ c := q0
  replace q1 : c < (4 : Int) := q1
  have HPc2 : Aside0 (0 ≤ c ∧ c < ((4 : Nat) : Int)) := ⟨⟨q0, q1⟩⟩
  have tc0 := eq_true q0
  have tc21 := eq_true q1
  clear q0 q1
  have HZ := am hz
  clear hz
  obtain ⟨kQ, cQ, eQ, _⟩ := HWS.out.qc b HPb8.out.1 (by rw [← H8.out]; exact HPb8.out.2)
  have HEQ := am eQ
  clear eQ
  have tbn := eq_true (show b < (nc : Int) by rw [← H8.out]; exact HPb8.out.2)
  obtain ⟨Ak, ck, ek⟩ := row_len (HWS.out.ms.row (12 + b.toNat))
  rw [HZ.out, List.length_nil] at ek
  have HEK := am ek
  clear ek
  go_enter Try.func63, Try.ntmps63
  go_wp2_with (first | ((with_reducible refine gd 4 ?_); refine bx 4 (sCells P g vR vQ tr) 70 ?_; intro b4 q4g W1 q4x q4b) | ((with_reducible refine gd 6 ?_); refine bx 6 (iCells ⟨22, a, b, c⟩) 33 ?_; intro b6 q6g W2 q6x q6b) | ((with_reducible refine gd 7 ?_); refine bx 7 (eCells ⟨0, ep, eo, eb, 0, 0⟩) 75 ?_; intro b7 q7g W3 q7x q7b) | ((with_reducible refine gd 8 ?_); refine bx 8 (zCells) 70 ?_; intro b8 q8g W4 q8x q8b) | ((with_reducible refine gd 9 ?_); refine bx 9 (zE) 75 ?_; intro b9 q9g W q9x q9b; have HK := am (show KS w W lo b4 b6 b7 b8 b9 P ⟨22, a, b, c⟩ nc g g (ls) vR vQ tr ⟨0, ep, eo, eb, 0, 0⟩ from ks_begin HWS.out HLO.out q4g q4x q4b q6g q6x q6b q7g q7x q7b q8g q8x q8b q9g q9x q9b); clear q4g q4x q4b q6g q6x q6b q7g q7x q7b q8g q8x q8b q9g q9x q9b W1 W2 W3 W4; have x9 := HK.out.vrc; have xr := HK.out.r2c HER.out; rw [HER.out] at x9; rw [HE2.out] at xr; have i2 := HK.out.i2; obtain ⟨e3, ef3⟩ := HK.out.e3; have i0 := HK.out.i0) | ((with_reducible refine gs 3 19 ?_); refine sv (W.setCell ⟨b7, 3, none⟩ (.int .i64 (b))) ?_; intro W hw; clear i2 e3 ef3 i0; replace HK := am (show KS w W lo b4 b6 b7 b8 b9 P ⟨22, a, b, c⟩ nc g g (ls) vR vQ tr ⟨0, ep, eo, (b), 0, 0⟩ by rw [hw]; exact KS.evs HK.out 3 (.int .i64 (b)) rfl); clear hw; have i0 := HK.out.i0; have i2 := HK.out.i2; have s14 := Box.at14 HK.out.x4; rw [HE8.out] at s14; obtain ⟨r8b, rf8b⟩ := HK.out.rc 8 HE8.out b HPb8.out.1 HPb8.out.2; have s13 := Box.at13 HK.out.x4; rw [HEQ.out] at s13; obtain ⟨qc, qf⟩ := HK.out.qc HEQ.out b HPb8.out.1 (by rw [← H8.out]; exact HPb8.out.2); rw [HEK.out] at qc; have i1 := HK.out.i1; obtain ⟨e4, ef4⟩ := HK.out.e4; obtain ⟨r2a, rf2a⟩ := HK.out.rc 2 HE2.out a HPa2.out.1 HPa2.out.2; clear x9 xr) | ((with_reducible refine gs 3 139 ?_); refine sv (W.setCell ⟨k2, (a : Int).toNat, none⟩ (.int .i64 (0))) ?_; intro W hw; clear i0 i2 s14 r8b rf8b i1 e4 ef4 r2a rf2a; replace HK := am (show KS w W lo b4 b6 b7 b8 b9 P ⟨22, a, b, c⟩ nc g g (st (ls) 2 a (0)) vR vQ tr ⟨0, ep, eo, (b), 0, 0⟩ by rw [hw]; exact KS.put HK.out 2 HE2.out a (0)); clear hw; have i0 := HK.out.i0; have i3 := HK.out.i3; obtain ⟨e5, ef5⟩ := HK.out.e5))
  obtain ⟨r2c, rf2c⟩ := HK.out.rc 2 HE2.out c HPc2.out.1 HPc2.out.2
  refine wp_region_still_tail 8 (by kernel_rfl) (by kernel_rfl) ?_
  simp only [List.take_succ_cons, List.take_zero, List.drop_succ_cons, List.drop_zero]
  iterate 6 still_step
  still_call (number_any _ _)
  iterate 1 still_step
  refine wpStill_nil ?_
  change wpList _ _ _ _ _ W.drew
  replace HK := am HK.out.drew
  generalize W.drew = W at HK ⊢
  try simp only [i64_w]
  clear i0 i3 e5 ef5
  clear r2c rf2c
  obtain ⟨r2c, rf2c⟩ := HK.out.rc 2 HE2.out c HPc2.out.1 HPc2.out.2
  go_wp2_with (first | ((with_reducible refine gs 3 150 ?_); refine sv (W.setCell ⟨k2, (c : Int).toNat, none⟩ (.int .i64 (0))) ?_; intro W hw; replace HK := am (show KS w W lo b4 b6 b7 b8 b9 P ⟨22, a, b, c⟩ nc g g (st (st (ls) 2 a (0)) 2 c (0)) vR vQ tr ⟨0, ep, eo, (b), 0, 0⟩ by rw [hw]; exact KS.put HK.out 2 HE2.out c (0)); clear hw))
  have HONE : Aside0 ((sCells P g vR vQ tr).all (·.oneCell') = true) := ⟨by rw [← show sCells P g vR vQ tr = sCells P g vR vQ tr from rfl]; exact sOne _ (HK.out.ws.rs (Seen.refl g _)) HC.out HT.out⟩
  replace HK := am HK.out.drew
  refine sa 5 (fun w' => w'.heap[b4]? = some (.cells (sCells P g vR vQ tr) 70 (0, 0)) ∧ w'.heap[b7]? = some (.cells (eCells ⟨0, ep, eo, (b), 0, 0⟩) 75 (0, 0))) tailT63 (⟨HK.out.x4, HK.out.x7⟩) [3] (fun HT_ hHeld => ?_)
  generalize W.drew = W at hHeld HK ⊢
  refine ta 0 151 HT_ hHeld (v := (.agg (sCells P g vR vQ tr))) ?_ ?_
  · exact fun w' hS' => exec_load_row 70 (.tmp 4) rfl b4 rfl 70 (sCells P g vR vQ tr) (0, 0) _ hS'.1 Try.underlying70 rfl size70
  refine ta 1 152 HT_ hHeld (v := (.agg (eCells ⟨0, ep, eo, (b), 0, 0⟩))) ?_ ?_
  · exact fun w' hS' => exec_load_row 75 (.tmp 7) rfl b7 rfl 75 (eCells ⟨0, ep, eo, (b), 0, 0⟩) (0, 0) _ hS'.2 Try.underlying75 rfl size75
  refine on 2 (none) HT_ (fun K hK => ?_)
  refine skip_ (w1 := W.setRow b8 (sCells P g vR vQ tr)) (by rfl) rfl (exec_store_row 70 (.tmp 8) (.tmp 151) rfl b8 (sCells P g vR vQ tr) rfl rfl 70 _ HK.out.x8 size70 rfl HONE.out) ?_
  refine hK.out _ _ (⟨(setRow_other _ _ _ _ HK.out.n48).trans hHeld.1, (setRow_other _ _ _ _ (blk_ne HK.out.x7 HK.out.x8 (by decide))).trans hHeld.2⟩) (fun hHeld => ?_)
  clear hK K
  refine la 3 (none) HT_ (fun K hK => ?_)
  refine skip_ (w1 := (W.setRow b8 (sCells P g vR vQ tr)).setRow b9 (eCells ⟨0, ep, eo, (b), 0, 0⟩)) (by rfl) rfl (exec_store_row 75 (.tmp 9) (.tmp 152) rfl b9 (eCells ⟨0, ep, eo, (b), 0, 0⟩) rfl rfl 75 _ ((setRow_other _ _ _ _ (Ne.symm HK.out.n89)).trans HK.out.x9) size75 rfl (eOne _)) ?_
  refine hK.out _ _ ?_
  clear hK K
  refine pu 4 10 HT_ ?_
  refine dn HT_ ?_
  go_wp2
  obtain ⟨f1, f2, f3⟩ := KS.fin HK.out rfl (Seen.refl g _) rfl
  refine results3 rfl b8 b9 _ _ true f2 f3 ?hp ?hq ?hr ?hd f1
  case hp => rfl
  case hq => rfl
  case hr => rfl
  case hd => rfl
end Go.Proofs.Yticdodbnjlnjlaa.P
