import Derived.StillTailTactics
import Derived.Test.YticdodbnjlnjlaaV5
namespace Go.Proofs.Yticdodbnjlnjlaa.P
open Go.RowKit Go.Proofs.YticdodbnjlnjlaaW.PrintWords Go.Proofs.YticdodbnjlnjlaaW.PrintLast Go.Proofs.YticdodbnjlnjlaaW.PrintMore
attribute [local go_sem] max2_int min2_int max_two min_two max_three min_three max_four min_four
attribute [local irreducible] Calls
set_option linter.unusedVariables false
set_option linter.unusedSimpArgs false
theorem tailT55 : rtab .any (opsOf Try.f55 43) = (true, [([], []), ([], []), ([0, 0], [0]), ([1, 2, 0, 1, 2], [1]), ([3, 0, 1, 2, 3], [])]) := by kernel_rfl
set_option maxHeartbeats 16000000 in
set_option maxRecDepth 100000 in
theorem sync0 (P : PV) (g : Nat → Value) (ls : Nat → List Int) (vR vQ : Value) (nc n : Nat) (tr : Int) (a b c ep eo eb : Int) (w : World) (lo : Nat) (h : WF w lo g g ls vR vQ nc) (hlo : lo ≤ w.heap.size) (hok : okI n ls ⟨0, a, b, c⟩) (h2 : (ls 2).length = 4) (h8 : (ls 8).length = nc) (hC : P.vC.oneCell' = true) (hT : P.vT.oneCell' = true) :
    Calls Try.prog 55 #[.agg (sCells P g vR vQ tr), .int .i64 0, .agg (iCells ⟨0, a, b, c⟩), .agg (eCells ⟨0, ep, eo, eb, 0, 0⟩)] w (RetS w lo nc P (ls) (tr)) := by
  have HWS := am h
  have HLO := am hlo
  have HOK := am hok
  have H2 := am h2
  have H8 := am h8
  have HC := am hC
  have HT := am hT
  clear h hlo hok h2 h8 hC hT
  obtain ⟨rR, cR, eR⟩ : ∃ k c, vR = .slice (some ⟨k, 0, none⟩) 1 c := by
    obtain ⟨x, hr, _⟩ := HWS.out.r
    obtain ⟨k, c, e, _⟩ := outer_at hr 0 (Int.le_refl _) (by simp)
    exact ⟨k, c, e⟩
  obtain ⟨k2, c2, e2, _⟩ := HWS.out.at 2 0 (Int.le_refl _) (by rw [H2.out]; decide)
  rw [H2.out] at e2
  have HER := am eR
  have HE2 := am e2
  clear e2 eR
  go_enter Try.func55, Try.ntmps55
  go_wp2_with (first | ((with_reducible refine gd 4 ?_); refine bx 4 (sCells P g vR vQ tr) 70 ?_; intro b4 q4g W1 q4x q4b) | ((with_reducible refine gd 6 ?_); refine bx 6 (iCells ⟨0, a, b, c⟩) 33 ?_; intro b6 q6g W2 q6x q6b) | ((with_reducible refine gd 7 ?_); refine bx 7 (eCells ⟨0, ep, eo, eb, 0, 0⟩) 75 ?_; intro b7 q7g W3 q7x q7b) | ((with_reducible refine gd 8 ?_); refine bx 8 (zCells) 70 ?_; intro b8 q8g W4 q8x q8b) | ((with_reducible refine gd 9 ?_); refine bx 9 (zE) 75 ?_; intro b9 q9g W q9x q9b; have HK := am (show KS w W lo b4 b6 b7 b8 b9 P ⟨0, a, b, c⟩ nc g g (ls) vR vQ tr ⟨0, ep, eo, eb, 0, 0⟩ from ks_begin HWS.out HLO.out q4g q4x q4b q6g q6x q6b q7g q7x q7b q8g q8x q8b q9g q9x q9b); clear q4g q4x q4b q6g q6x q6b q7g q7x q7b q8g q8x q8b q9g q9x q9b W1 W2 W3 W4; have x9 := HK.out.vrc; have xr := HK.out.r2c HER.out; rw [HER.out] at x9; rw [HE2.out] at xr; have i1 := HK.out.i1; obtain ⟨e3, ef3⟩ := HK.out.e3; have i0 := HK.out.i0) | ((with_reducible refine gs 3 19 ?_); refine sv (W.setCell ⟨b7, 3, none⟩ (.int .i64 (a))) ?_; intro W hw; clear i1 e3 ef3 i0; replace HK := am (show KS w W lo b4 b6 b7 b8 b9 P ⟨0, a, b, c⟩ nc g g (ls) vR vQ tr ⟨0, ep, eo, (a), 0, 0⟩ by rw [hw]; exact KS.evs HK.out 3 (.int .i64 (a)) rfl); clear hw; have i0 := HK.out.i0; obtain ⟨e3, ef3⟩ := HK.out.e3; clear x9 xr) | (go_at_call 54; refine (number_any _ _).mono ?_; rintro e w_ ⟨rfl, hw_⟩; replace hw_ := hw_.symm; subst hw_) | ((with_reducible refine gs 3 32 ?_); refine sv (W.setCell ⟨b7, 3, none⟩ (.int .i64 (0))) ?_; intro W hw; clear i0 e3 ef3; replace HK := am (show KS w W lo b4 b6 b7 b8 b9 P ⟨0, a, b, c⟩ nc g g (ls) vR vQ tr ⟨0, ep, eo, (0), 0, 0⟩ by rw [hw]; exact KS.evs HK.out 3 (.int .i64 (0)) rfl); clear hw))
  have HONE : Aside0 ((sCells P g vR vQ tr).all (·.oneCell') = true) := ⟨by rw [← show sCells P g vR vQ tr = sCells P g vR vQ tr from rfl]; exact sOne _ (HK.out.ws.rs (Seen.refl g _)) HC.out HT.out⟩
  replace HK := am HK.out.drew
  refine sa 5 (fun w' => w'.heap[b4]? = some (.cells (sCells P g vR vQ tr) 70 (0, 0)) ∧ w'.heap[b7]? = some (.cells (eCells ⟨0, ep, eo, (0), 0, 0⟩) 75 (0, 0))) tailT55 (⟨HK.out.x4, HK.out.x7⟩) [3] (fun HT_ hHeld => ?_)
  generalize W.drew = W at hHeld HK ⊢
  refine ta 0 224 HT_ hHeld (v := (.agg (sCells P g vR vQ tr))) ?_ ?_
  · exact fun w' hS' => exec_load_row 70 (.tmp 4) rfl b4 rfl 70 (sCells P g vR vQ tr) (0, 0) _ hS'.1 Try.underlying70 rfl size70
  refine ta 1 225 HT_ hHeld (v := (.agg (eCells ⟨0, ep, eo, (0), 0, 0⟩))) ?_ ?_
  · exact fun w' hS' => exec_load_row 75 (.tmp 7) rfl b7 rfl 75 (eCells ⟨0, ep, eo, (0), 0, 0⟩) (0, 0) _ hS'.2 Try.underlying75 rfl size75
  refine on 2 (none) HT_ (fun K hK => ?_)
  refine skip_ (w1 := W.setRow b8 (sCells P g vR vQ tr)) (by rfl) rfl (exec_store_row 70 (.tmp 8) (.tmp 224) rfl b8 (sCells P g vR vQ tr) rfl rfl 70 _ HK.out.x8 size70 rfl HONE.out) ?_
  refine hK.out _ _ (⟨(setRow_other _ _ _ _ HK.out.n48).trans hHeld.1, (setRow_other _ _ _ _ (blk_ne HK.out.x7 HK.out.x8 (by decide))).trans hHeld.2⟩) (fun hHeld => ?_)
  clear hK K
  refine la 3 (none) HT_ (fun K hK => ?_)
  refine skip_ (w1 := (W.setRow b8 (sCells P g vR vQ tr)).setRow b9 (eCells ⟨0, ep, eo, (0), 0, 0⟩)) (by rfl) rfl (exec_store_row 75 (.tmp 9) (.tmp 225) rfl b9 (eCells ⟨0, ep, eo, (0), 0, 0⟩) rfl rfl 75 _ ((setRow_other _ _ _ _ (Ne.symm HK.out.n89)).trans HK.out.x9) size75 rfl (eOne _)) ?_
  refine hK.out _ _ ?_
  clear hK K
  refine pu 4 10 HT_ ?_
  refine dn HT_ ?_
  go_wp2
  obtain ⟨f1, f2, f3⟩ := KS.fin HK.out rfl (Seen.refl g _) rfl
  refine results3 rfl b8 b9 _ _ true f2 f3 ?hp ?hq ?hr ?hd f1
  case hp => rfl
  case hq => rfl
  case hr => rfl
  case hd => rfl
set_option maxHeartbeats 16000000 in
set_option maxRecDepth 100000 in
theorem sync13 (P : PV) (g : Nat → Value) (ls : Nat → List Int) (vR vQ : Value) (nc n : Nat) (tr : Int) (a b c ep eo eb : Int) (w : World) (lo : Nat) (h : WF w lo g g ls vR vQ nc) (hlo : lo ≤ w.heap.size) (hok : okI n ls ⟨13, a, b, c⟩) (h2 : (ls 2).length = 4) (h8 : (ls 8).length = nc) (hC : P.vC.oneCell' = true) (hT : P.vT.oneCell' = true) :
    Calls Try.prog 55 #[.agg (sCells P g vR vQ tr), .int .i64 0, .agg (iCells ⟨13, a, b, c⟩), .agg (eCells ⟨0, ep, eo, eb, 0, 0⟩)] w (RetS w lo nc P (st ls 6 a (-1)) (tr)) := by
  have HWS := am h
  have HLO := am hlo
  have HOK := am hok
  have H2 := am h2
  have H8 := am h8
  have HC := am hC
  have HT := am hT
  clear h hlo hok h2 h8 hC hT
  obtain ⟨rR, cR, eR⟩ : ∃ k c, vR = .slice (some ⟨k, 0, none⟩) 1 c := by
    obtain ⟨x, hr, _⟩ := HWS.out.r
    obtain ⟨k, c, e, _⟩ := outer_at hr 0 (Int.le_refl _) (by simp)
    exact ⟨k, c, e⟩
  obtain ⟨k2, c2, e2, _⟩ := HWS.out.at 2 0 (Int.le_refl _) (by rw [H2.out]; decide)
  rw [H2.out] at e2
  have HER := am eR
  have HE2 := am e2
  clear e2 eR
  obtain ⟨q0, q1⟩ := HOK.out.l1 (by simp)
  replace q0 : 0 ≤ a := q0
  replace q1 : a < ((ls 6).length : Int) := q1
  obtain ⟨k6, c6, e6, _⟩ := HWS.out.at 6 a q0 q1
  have HE6 := am e6
  clear e6
  have HPa6 := am (And.intro q0 q1)
  have ta0 := eq_true q0
  have ta61 := eq_true q1
  clear q0 q1
  go_enter Try.func55, Try.ntmps55
  go_wp2_with (first | ((with_reducible refine gd 4 ?_); refine bx 4 (sCells P g vR vQ tr) 70 ?_; intro b4 q4g W1 q4x q4b) | ((with_reducible refine gd 6 ?_); refine bx 6 (iCells ⟨13, a, b, c⟩) 33 ?_; intro b6 q6g W2 q6x q6b) | ((with_reducible refine gd 7 ?_); refine bx 7 (eCells ⟨0, ep, eo, eb, 0, 0⟩) 75 ?_; intro b7 q7g W3 q7x q7b) | ((with_reducible refine gd 8 ?_); refine bx 8 (zCells) 70 ?_; intro b8 q8g W4 q8x q8b) | ((with_reducible refine gd 9 ?_); refine bx 9 (zE) 75 ?_; intro b9 q9g W q9x q9b; have HK := am (show KS w W lo b4 b6 b7 b8 b9 P ⟨13, a, b, c⟩ nc g g (ls) vR vQ tr ⟨0, ep, eo, eb, 0, 0⟩ from ks_begin HWS.out HLO.out q4g q4x q4b q6g q6x q6b q7g q7x q7b q8g q8x q8b q9g q9x q9b); clear q4g q4x q4b q6g q6x q6b q7g q7x q7b q8g q8x q8b q9g q9x q9b W1 W2 W3 W4; have x9 := HK.out.vrc; have xr := HK.out.r2c HER.out; rw [HER.out] at x9; rw [HE2.out] at xr; have i1 := HK.out.i1; obtain ⟨e3, ef3⟩ := HK.out.e3; have i0 := HK.out.i0) | ((with_reducible refine gs 3 19 ?_); refine sv (W.setCell ⟨b7, 3, none⟩ (.int .i64 (a))) ?_; intro W hw; clear i1 e3 ef3 i0; replace HK := am (show KS w W lo b4 b6 b7 b8 b9 P ⟨13, a, b, c⟩ nc g g (ls) vR vQ tr ⟨0, ep, eo, (a), 0, 0⟩ by rw [hw]; exact KS.evs HK.out 3 (.int .i64 (a)) rfl); clear hw; have i0 := HK.out.i0; have i1 := HK.out.i1; have s12 := Box.at12 HK.out.x4; rw [HE6.out] at s12; obtain ⟨r6a, rf6a⟩ := HK.out.rc 6 HE6.out a HPa6.out.1 HPa6.out.2; clear x9 xr) | (go_at_call 54; refine (number_any _ _).mono ?_; rintro e w_ ⟨rfl, hw_⟩; replace hw_ := hw_.symm; subst hw_) | ((with_reducible refine gs 3 53 ?_); refine sv (W.setCell ⟨k6, (a : Int).toNat, none⟩ (.int .i64 (-1))) ?_; intro W hw; clear i0 i1 s12 r6a rf6a; replace HK := am (show KS w W lo b4 b6 b7 b8 b9 P ⟨13, a, b, c⟩ nc g g (st (ls) 6 a (-1)) vR vQ tr ⟨0, ep, eo, (a), 0, 0⟩ by rw [hw]; exact KS.put HK.out 6 HE6.out a (-1)); clear hw))
  have HONE : Aside0 ((sCells P g vR vQ tr).all (·.oneCell') = true) := ⟨by rw [← show sCells P g vR vQ tr = sCells P g vR vQ tr from rfl]; exact sOne _ (HK.out.ws.rs (Seen.refl g _)) HC.out HT.out⟩
  replace HK := am HK.out.drew
  refine sa 5 (fun w' => w'.heap[b4]? = some (.cells (sCells P g vR vQ tr) 70 (0, 0)) ∧ w'.heap[b7]? = some (.cells (eCells ⟨0, ep, eo, (a), 0, 0⟩) 75 (0, 0))) tailT55 (⟨HK.out.x4, HK.out.x7⟩) [3] (fun HT_ hHeld => ?_)
  generalize W.drew = W at hHeld HK ⊢
  refine ta 0 224 HT_ hHeld (v := (.agg (sCells P g vR vQ tr))) ?_ ?_
  · exact fun w' hS' => exec_load_row 70 (.tmp 4) rfl b4 rfl 70 (sCells P g vR vQ tr) (0, 0) _ hS'.1 Try.underlying70 rfl size70
  refine ta 1 225 HT_ hHeld (v := (.agg (eCells ⟨0, ep, eo, (a), 0, 0⟩))) ?_ ?_
  · exact fun w' hS' => exec_load_row 75 (.tmp 7) rfl b7 rfl 75 (eCells ⟨0, ep, eo, (a), 0, 0⟩) (0, 0) _ hS'.2 Try.underlying75 rfl size75
  refine on 2 (none) HT_ (fun K hK => ?_)
  refine skip_ (w1 := W.setRow b8 (sCells P g vR vQ tr)) (by rfl) rfl (exec_store_row 70 (.tmp 8) (.tmp 224) rfl b8 (sCells P g vR vQ tr) rfl rfl 70 _ HK.out.x8 size70 rfl HONE.out) ?_
  refine hK.out _ _ (⟨(setRow_other _ _ _ _ HK.out.n48).trans hHeld.1, (setRow_other _ _ _ _ (blk_ne HK.out.x7 HK.out.x8 (by decide))).trans hHeld.2⟩) (fun hHeld => ?_)
  clear hK K
  refine la 3 (none) HT_ (fun K hK => ?_)
  refine skip_ (w1 := (W.setRow b8 (sCells P g vR vQ tr)).setRow b9 (eCells ⟨0, ep, eo, (a), 0, 0⟩)) (by rfl) rfl (exec_store_row 75 (.tmp 9) (.tmp 225) rfl b9 (eCells ⟨0, ep, eo, (a), 0, 0⟩) rfl rfl 75 _ ((setRow_other _ _ _ _ (Ne.symm HK.out.n89)).trans HK.out.x9) size75 rfl (eOne _)) ?_
  refine hK.out _ _ ?_
  clear hK K
  refine pu 4 10 HT_ ?_
  refine dn HT_ ?_
  go_wp2
  obtain ⟨f1, f2, f3⟩ := KS.fin HK.out rfl (Seen.refl g _) rfl
  refine results3 rfl b8 b9 _ _ true f2 f3 ?hp ?hq ?hr ?hd f1
  case hp => rfl
  case hq => rfl
  case hr => rfl
  case hd => rfl
set_option maxHeartbeats 16000000 in
set_option maxRecDepth 100000 in
theorem sync14a (P : PV) (g : Nat → Value) (ls : Nat → List Int) (vR vQ : Value) (nc n : Nat) (tr : Int) (a b c ep eo eb : Int) (w : World) (lo : Nat) (h : WF w lo g g ls vR vQ nc) (hlo : lo ≤ w.heap.size) (hok : okI n ls ⟨14, a, b, c⟩) (h2 : (ls 2).length = 4) (h8 : (ls 8).length = nc) (hC : P.vC.oneCell' = true) (hT : P.vT.oneCell' = true) (hz : rd (ls 6) a = -1) :
    Calls Try.prog 55 #[.agg (sCells P g vR vQ tr), .int .i64 0, .agg (iCells ⟨14, a, b, c⟩), .agg (eCells ⟨0, ep, eo, eb, 0, 0⟩)] w (RetS w lo nc P (st ls 6 a 0) (0)) := by
  have HWS := am h
  have HLO := am hlo
  have HOK := am hok
  have H2 := am h2
  have H8 := am h8
  have HC := am hC
  have HT := am hT
  clear h hlo hok h2 h8 hC hT
  obtain ⟨rR, cR, eR⟩ : ∃ k c, vR = .slice (some ⟨k, 0, none⟩) 1 c := by
    obtain ⟨x, hr, _⟩ := HWS.out.r
    obtain ⟨k, c, e, _⟩ := outer_at hr 0 (Int.le_refl _) (by simp)
    exact ⟨k, c, e⟩
  obtain ⟨k2, c2, e2, _⟩ := HWS.out.at 2 0 (Int.le_refl _) (by rw [H2.out]; decide)
  rw [H2.out] at e2
  have HER := am eR
  have HE2 := am e2
  clear e2 eR
  obtain ⟨q0, q1⟩ := HOK.out.l1 (by simp)
  replace q0 : 0 ≤ a := q0
  replace q1 : a < ((ls 6).length : Int) := q1
  obtain ⟨k6, c6, e6, _⟩ := HWS.out.at 6 a q0 q1
  have HE6 := am e6
  clear e6
  have HPa6 := am (And.intro q0 q1)
  have ta0 := eq_true q0
  have ta61 := eq_true q1
  clear q0 q1
  go_enter Try.func55, Try.ntmps55
  go_wp2_with (first | ((with_reducible refine gd 4 ?_); refine bx 4 (sCells P g vR vQ tr) 70 ?_; intro b4 q4g W1 q4x q4b) | ((with_reducible refine gd 6 ?_); refine bx 6 (iCells ⟨14, a, b, c⟩) 33 ?_; intro b6 q6g W2 q6x q6b) | ((with_reducible refine gd 7 ?_); refine bx 7 (eCells ⟨0, ep, eo, eb, 0, 0⟩) 75 ?_; intro b7 q7g W3 q7x q7b) | ((with_reducible refine gd 8 ?_); refine bx 8 (zCells) 70 ?_; intro b8 q8g W4 q8x q8b) | ((with_reducible refine gd 9 ?_); refine bx 9 (zE) 75 ?_; intro b9 q9g W q9x q9b; have HK := am (show KS w W lo b4 b6 b7 b8 b9 P ⟨14, a, b, c⟩ nc g g (ls) vR vQ tr ⟨0, ep, eo, eb, 0, 0⟩ from ks_begin HWS.out HLO.out q4g q4x q4b q6g q6x q6b q7g q7x q7b q8g q8x q8b q9g q9x q9b); clear q4g q4x q4b q6g q6x q6b q7g q7x q7b q8g q8x q8b q9g q9x q9b W1 W2 W3 W4; have x9 := HK.out.vrc; have xr := HK.out.r2c HER.out; rw [HER.out] at x9; rw [HE2.out] at xr; have i1 := HK.out.i1; obtain ⟨e3, ef3⟩ := HK.out.e3; have i0 := HK.out.i0) | ((with_reducible refine gs 3 19 ?_); refine sv (W.setCell ⟨b7, 3, none⟩ (.int .i64 (a))) ?_; intro W hw; clear i1 e3 ef3 i0; replace HK := am (show KS w W lo b4 b6 b7 b8 b9 P ⟨14, a, b, c⟩ nc g g (ls) vR vQ tr ⟨0, ep, eo, (a), 0, 0⟩ by rw [hw]; exact KS.evs HK.out 3 (.int .i64 (a)) rfl); clear hw; have i0 := HK.out.i0; have i1 := HK.out.i1; have s12 := Box.at12 HK.out.x4; rw [HE6.out] at s12; obtain ⟨r6a, rf6a⟩ := HK.out.rc 6 HE6.out a HPa6.out.1 HPa6.out.2; rw [hz] at r6a; obtain ⟨tc, tf⟩ := HK.out.trc; clear x9 xr) | (go_at_call 54; refine (number_any _ _).mono ?_; rintro e w_ ⟨rfl, hw_⟩; replace hw_ := hw_.symm; subst hw_) | ((with_reducible refine gs 3 64 ?_); refine sv (W.setCell ⟨b4, 18, none⟩ (.int .i64 (0))) ?_; intro W hw; clear i0 i1 s12 r6a rf6a tc tf; replace HK := am (show KS w W lo b4 b6 b7 b8 b9 P ⟨14, a, b, c⟩ nc g g (ls) vR vQ (0) ⟨0, ep, eo, (a), 0, 0⟩ by rw [hw]; exact KS.trap HK.out (0)); clear hw; obtain ⟨tc, tf⟩ := HK.out.trc; have i1 := HK.out.i1; have s12 := Box.at12 HK.out.x4; rw [HE6.out] at s12; obtain ⟨r6a, rf6a⟩ := HK.out.rc 6 HE6.out a HPa6.out.1 HPa6.out.2) | ((with_reducible refine gs 3 72 ?_); refine sv (W.setCell ⟨k6, (a : Int).toNat, none⟩ (.int .i64 (0))) ?_; intro W hw; clear tc tf i1 s12 r6a rf6a; replace HK := am (show KS w W lo b4 b6 b7 b8 b9 P ⟨14, a, b, c⟩ nc g g (st (ls) 6 a (0)) vR vQ (0) ⟨0, ep, eo, (a), 0, 0⟩ by rw [hw]; exact KS.put HK.out 6 HE6.out a (0)); clear hw))
  have HONE : Aside0 ((sCells P g vR vQ (0)).all (·.oneCell') = true) := ⟨by rw [← show sCells P g vR vQ (0) = sCells P g vR vQ (0) from rfl]; exact sOne _ (HK.out.ws.rs (Seen.refl g _)) HC.out HT.out⟩
  replace HK := am HK.out.drew
  refine sa 5 (fun w' => w'.heap[b4]? = some (.cells (sCells P g vR vQ (0)) 70 (0, 0)) ∧ w'.heap[b7]? = some (.cells (eCells ⟨0, ep, eo, (a), 0, 0⟩) 75 (0, 0))) tailT55 (⟨HK.out.x4, HK.out.x7⟩) [3] (fun HT_ hHeld => ?_)
  generalize W.drew = W at hHeld HK ⊢
  refine ta 0 224 HT_ hHeld (v := (.agg (sCells P g vR vQ (0)))) ?_ ?_
  · exact fun w' hS' => exec_load_row 70 (.tmp 4) rfl b4 rfl 70 (sCells P g vR vQ (0)) (0, 0) _ hS'.1 Try.underlying70 rfl size70
  refine ta 1 225 HT_ hHeld (v := (.agg (eCells ⟨0, ep, eo, (a), 0, 0⟩))) ?_ ?_
  · exact fun w' hS' => exec_load_row 75 (.tmp 7) rfl b7 rfl 75 (eCells ⟨0, ep, eo, (a), 0, 0⟩) (0, 0) _ hS'.2 Try.underlying75 rfl size75
  refine on 2 (none) HT_ (fun K hK => ?_)
  refine skip_ (w1 := W.setRow b8 (sCells P g vR vQ (0))) (by rfl) rfl (exec_store_row 70 (.tmp 8) (.tmp 224) rfl b8 (sCells P g vR vQ (0)) rfl rfl 70 _ HK.out.x8 size70 rfl HONE.out) ?_
  refine hK.out _ _ (⟨(setRow_other _ _ _ _ HK.out.n48).trans hHeld.1, (setRow_other _ _ _ _ (blk_ne HK.out.x7 HK.out.x8 (by decide))).trans hHeld.2⟩) (fun hHeld => ?_)
  clear hK K
  refine la 3 (none) HT_ (fun K hK => ?_)
  refine skip_ (w1 := (W.setRow b8 (sCells P g vR vQ (0))).setRow b9 (eCells ⟨0, ep, eo, (a), 0, 0⟩)) (by rfl) rfl (exec_store_row 75 (.tmp 9) (.tmp 225) rfl b9 (eCells ⟨0, ep, eo, (a), 0, 0⟩) rfl rfl 75 _ ((setRow_other _ _ _ _ (Ne.symm HK.out.n89)).trans HK.out.x9) size75 rfl (eOne _)) ?_
  refine hK.out _ _ ?_
  clear hK K
  refine pu 4 10 HT_ ?_
  refine dn HT_ ?_
  go_wp2
  obtain ⟨f1, f2, f3⟩ := KS.fin HK.out rfl (Seen.refl g _) rfl
  refine results3 rfl b8 b9 _ _ true f2 f3 ?hp ?hq ?hr ?hd f1
  case hp => rfl
  case hq => rfl
  case hr => rfl
  case hd => rfl
set_option maxHeartbeats 16000000 in
set_option maxRecDepth 100000 in
theorem sync14b (P : PV) (g : Nat → Value) (ls : Nat → List Int) (vR vQ : Value) (nc n : Nat) (tr : Int) (a b c ep eo eb : Int) (w : World) (lo : Nat) (h : WF w lo g g ls vR vQ nc) (hlo : lo ≤ w.heap.size) (hok : okI n ls ⟨14, a, b, c⟩) (h2 : (ls 2).length = 4) (h8 : (ls 8).length = nc) (hC : P.vC.oneCell' = true) (hT : P.vT.oneCell' = true) (hz : (rd (ls 6) a != -1) = true) :
    Calls Try.prog 55 #[.agg (sCells P g vR vQ tr), .int .i64 0, .agg (iCells ⟨14, a, b, c⟩), .agg (eCells ⟨0, ep, eo, eb, 0, 0⟩)] w (RetS w lo nc P (ls) (1)) := by
  have HWS := am h
  have HLO := am hlo
  have HOK := am hok
  have H2 := am h2
  have H8 := am h8
  have HC := am hC
  have HT := am hT
  clear h hlo hok h2 h8 hC hT
  obtain ⟨rR, cR, eR⟩ : ∃ k c, vR = .slice (some ⟨k, 0, none⟩) 1 c := by
    obtain ⟨x, hr, _⟩ := HWS.out.r
    obtain ⟨k, c, e, _⟩ := outer_at hr 0 (Int.le_refl _) (by simp)
    exact ⟨k, c, e⟩
  obtain ⟨k2, c2, e2, _⟩ := HWS.out.at 2 0 (Int.le_refl _) (by rw [H2.out]; decide)
  rw [H2.out] at e2
  have HER := am eR
  have HE2 := am e2
  clear e2 eR
  obtain ⟨q0, q1⟩ := HOK.out.l1 (by simp)
  replace q0 : 0 ≤ a := q0
  replace q1 : a < ((ls 6).length : Int) := q1
  obtain ⟨k6, c6, e6, _⟩ := HWS.out.at 6 a q0 q1
  have HE6 := am e6
  clear e6
  have HPa6 := am (And.intro q0 q1)
  have ta0 := eq_true q0
  have ta61 := eq_true q1
  clear q0 q1
  go_enter Try.func55, Try.ntmps55
  go_wp2_with (first | ((with_reducible refine gd 4 ?_); refine bx 4 (sCells P g vR vQ tr) 70 ?_; intro b4 q4g W1 q4x q4b) | ((with_reducible refine gd 6 ?_); refine bx 6 (iCells ⟨14, a, b, c⟩) 33 ?_; intro b6 q6g W2 q6x q6b) | ((with_reducible refine gd 7 ?_); refine bx 7 (eCells ⟨0, ep, eo, eb, 0, 0⟩) 75 ?_; intro b7 q7g W3 q7x q7b) | ((with_reducible refine gd 8 ?_); refine bx 8 (zCells) 70 ?_; intro b8 q8g W4 q8x q8b) | ((with_reducible refine gd 9 ?_); refine bx 9 (zE) 75 ?_; intro b9 q9g W q9x q9b; have HK := am (show KS w W lo b4 b6 b7 b8 b9 P ⟨14, a, b, c⟩ nc g g (ls) vR vQ tr ⟨0, ep, eo, eb, 0, 0⟩ from ks_begin HWS.out HLO.out q4g q4x q4b q6g q6x q6b q7g q7x q7b q8g q8x q8b q9g q9x q9b); clear q4g q4x q4b q6g q6x q6b q7g q7x q7b q8g q8x q8b q9g q9x q9b W1 W2 W3 W4; have x9 := HK.out.vrc; have xr := HK.out.r2c HER.out; rw [HER.out] at x9; rw [HE2.out] at xr; have i1 := HK.out.i1; obtain ⟨e3, ef3⟩ := HK.out.e3; have i0 := HK.out.i0) | ((with_reducible refine gs 3 19 ?_); refine sv (W.setCell ⟨b7, 3, none⟩ (.int .i64 (a))) ?_; intro W hw; clear i1 e3 ef3 i0; replace HK := am (show KS w W lo b4 b6 b7 b8 b9 P ⟨14, a, b, c⟩ nc g g (ls) vR vQ tr ⟨0, ep, eo, (a), 0, 0⟩ by rw [hw]; exact KS.evs HK.out 3 (.int .i64 (a)) rfl); clear hw; have i0 := HK.out.i0; have i1 := HK.out.i1; have s12 := Box.at12 HK.out.x4; rw [HE6.out] at s12; obtain ⟨r6a, rf6a⟩ := HK.out.rc 6 HE6.out a HPa6.out.1 HPa6.out.2; obtain ⟨tc, tf⟩ := HK.out.trc; clear x9 xr) | (go_at_call 54; refine (number_any _ _).mono ?_; rintro e w_ ⟨rfl, hw_⟩; replace hw_ := hw_.symm; subst hw_) | ((with_reducible refine gs 3 64 ?_); refine sv (W.setCell ⟨b4, 18, none⟩ (.int .i64 (1))) ?_; intro W hw; clear i0 i1 s12 r6a rf6a tc tf; replace HK := am (show KS w W lo b4 b6 b7 b8 b9 P ⟨14, a, b, c⟩ nc g g (ls) vR vQ (1) ⟨0, ep, eo, (a), 0, 0⟩ by rw [hw]; exact KS.trap HK.out (1)); clear hw; obtain ⟨tc, tf⟩ := HK.out.trc))
  have HONE : Aside0 ((sCells P g vR vQ (1)).all (·.oneCell') = true) := ⟨by rw [← show sCells P g vR vQ (1) = sCells P g vR vQ (1) from rfl]; exact sOne _ (HK.out.ws.rs (Seen.refl g _)) HC.out HT.out⟩
  replace HK := am HK.out.drew
  refine sa 5 (fun w' => w'.heap[b4]? = some (.cells (sCells P g vR vQ (1)) 70 (0, 0)) ∧ w'.heap[b7]? = some (.cells (eCells ⟨0, ep, eo, (a), 0, 0⟩) 75 (0, 0))) tailT55 (⟨HK.out.x4, HK.out.x7⟩) [3] (fun HT_ hHeld => ?_)
  generalize W.drew = W at hHeld HK ⊢
  refine ta 0 224 HT_ hHeld (v := (.agg (sCells P g vR vQ (1)))) ?_ ?_
  · exact fun w' hS' => exec_load_row 70 (.tmp 4) rfl b4 rfl 70 (sCells P g vR vQ (1)) (0, 0) _ hS'.1 Try.underlying70 rfl size70
  refine ta 1 225 HT_ hHeld (v := (.agg (eCells ⟨0, ep, eo, (a), 0, 0⟩))) ?_ ?_
  · exact fun w' hS' => exec_load_row 75 (.tmp 7) rfl b7 rfl 75 (eCells ⟨0, ep, eo, (a), 0, 0⟩) (0, 0) _ hS'.2 Try.underlying75 rfl size75
  refine on 2 (none) HT_ (fun K hK => ?_)
  refine skip_ (w1 := W.setRow b8 (sCells P g vR vQ (1))) (by rfl) rfl (exec_store_row 70 (.tmp 8) (.tmp 224) rfl b8 (sCells P g vR vQ (1)) rfl rfl 70 _ HK.out.x8 size70 rfl HONE.out) ?_
  refine hK.out _ _ (⟨(setRow_other _ _ _ _ HK.out.n48).trans hHeld.1, (setRow_other _ _ _ _ (blk_ne HK.out.x7 HK.out.x8 (by decide))).trans hHeld.2⟩) (fun hHeld => ?_)
  clear hK K
  refine la 3 (none) HT_ (fun K hK => ?_)
  refine skip_ (w1 := (W.setRow b8 (sCells P g vR vQ (1))).setRow b9 (eCells ⟨0, ep, eo, (a), 0, 0⟩)) (by rfl) rfl (exec_store_row 75 (.tmp 9) (.tmp 225) rfl b9 (eCells ⟨0, ep, eo, (a), 0, 0⟩) rfl rfl 75 _ ((setRow_other _ _ _ _ (Ne.symm HK.out.n89)).trans HK.out.x9) size75 rfl (eOne _)) ?_
  refine hK.out _ _ ?_
  clear hK K
  refine pu 4 10 HT_ ?_
  refine dn HT_ ?_
  go_wp2
  obtain ⟨f1, f2, f3⟩ := KS.fin HK.out rfl (Seen.refl g _) rfl
  refine results3 rfl b8 b9 _ _ true f2 f3 ?hp ?hq ?hr ?hd f1
  case hp => rfl
  case hq => rfl
  case hr => rfl
  case hd => rfl
set_option maxHeartbeats 16000000 in
set_option maxRecDepth 100000 in
theorem sync15 (P : PV) (g : Nat → Value) (ls : Nat → List Int) (vR vQ : Value) (nc n : Nat) (tr : Int) (a b c ep eo eb : Int) (w : World) (lo : Nat) (h : WF w lo g g ls vR vQ nc) (hlo : lo ≤ w.heap.size) (hok : okI n ls ⟨15, a, b, c⟩) (h2 : (ls 2).length = 4) (h8 : (ls 8).length = nc) (hC : P.vC.oneCell' = true) (hT : P.vT.oneCell' = true) :
    Calls Try.prog 55 #[.agg (sCells P g vR vQ tr), .int .i64 0, .agg (iCells ⟨15, a, b, c⟩), .agg (eCells ⟨0, ep, eo, eb, 0, 0⟩)] w (RetS w lo nc P (st ls 6 a (wrap64 (rd (ls 6) a + 1))) (tr)) := by
  have HWS := am h
  have HLO := am hlo
  have HOK := am hok
  have H2 := am h2
  have H8 := am h8
  have HC := am hC
  have HT := am hT
  clear h hlo hok h2 h8 hC hT
  obtain ⟨rR, cR, eR⟩ : ∃ k c, vR = .slice (some ⟨k, 0, none⟩) 1 c := by
    obtain ⟨x, hr, _⟩ := HWS.out.r
    obtain ⟨k, c, e, _⟩ := outer_at hr 0 (Int.le_refl _) (by simp)
    exact ⟨k, c, e⟩
  obtain ⟨k2, c2, e2, _⟩ := HWS.out.at 2 0 (Int.le_refl _) (by rw [H2.out]; decide)
  rw [H2.out] at e2
  have HER := am eR
  have HE2 := am e2
  clear e2 eR
  obtain ⟨q0, q1⟩ := HOK.out.l1 (by simp)
  replace q0 : 0 ≤ a := q0
  replace q1 : a < ((ls 6).length : Int) := q1
  obtain ⟨k6, c6, e6, _⟩ := HWS.out.at 6 a q0 q1
  have HE6 := am e6
  clear e6
  have HPa6 := am (And.intro q0 q1)
  have ta0 := eq_true q0
  have ta61 := eq_true q1
  clear q0 q1
  go_enter Try.func55, Try.ntmps55
  go_wp2_with (first | ((with_reducible refine gd 4 ?_); refine bx 4 (sCells P g vR vQ tr) 70 ?_; intro b4 q4g W1 q4x q4b) | ((with_reducible refine gd 6 ?_); refine bx 6 (iCells ⟨15, a, b, c⟩) 33 ?_; intro b6 q6g W2 q6x q6b) | ((with_reducible refine gd 7 ?_); refine bx 7 (eCells ⟨0, ep, eo, eb, 0, 0⟩) 75 ?_; intro b7 q7g W3 q7x q7b) | ((with_reducible refine gd 8 ?_); refine bx 8 (zCells) 70 ?_; intro b8 q8g W4 q8x q8b) | ((with_reducible refine gd 9 ?_); refine bx 9 (zE) 75 ?_; intro b9 q9g W q9x q9b; have HK := am (show KS w W lo b4 b6 b7 b8 b9 P ⟨15, a, b, c⟩ nc g g (ls) vR vQ tr ⟨0, ep, eo, eb, 0, 0⟩ from ks_begin HWS.out HLO.out q4g q4x q4b q6g q6x q6b q7g q7x q7b q8g q8x q8b q9g q9x q9b); clear q4g q4x q4b q6g q6x q6b q7g q7x q7b q8g q8x q8b q9g q9x q9b W1 W2 W3 W4; have x9 := HK.out.vrc; have xr := HK.out.r2c HER.out; rw [HER.out] at x9; rw [HE2.out] at xr; have i1 := HK.out.i1; obtain ⟨e3, ef3⟩ := HK.out.e3; have i0 := HK.out.i0) | ((with_reducible refine gs 3 19 ?_); refine sv (W.setCell ⟨b7, 3, none⟩ (.int .i64 (a))) ?_; intro W hw; clear i1 e3 ef3 i0; replace HK := am (show KS w W lo b4 b6 b7 b8 b9 P ⟨15, a, b, c⟩ nc g g (ls) vR vQ tr ⟨0, ep, eo, (a), 0, 0⟩ by rw [hw]; exact KS.evs HK.out 3 (.int .i64 (a)) rfl); clear hw; have i0 := HK.out.i0; have i1 := HK.out.i1; have s12 := Box.at12 HK.out.x4; rw [HE6.out] at s12; obtain ⟨r6a, rf6a⟩ := HK.out.rc 6 HE6.out a HPa6.out.1 HPa6.out.2; clear x9 xr) | (go_at_call 54; refine (number_any _ _).mono ?_; rintro e w_ ⟨rfl, hw_⟩; replace hw_ := hw_.symm; subst hw_) | ((with_reducible refine gs 3 82 ?_); refine sv (W.setCell ⟨k6, (a : Int).toNat, none⟩ (.int .i64 (wrap64 (rd (ls 6) a + 1)))) ?_; intro W hw; clear i0 i1 s12 r6a rf6a; replace HK := am (show KS w W lo b4 b6 b7 b8 b9 P ⟨15, a, b, c⟩ nc g g (st (ls) 6 a (wrap64 (rd (ls 6) a + 1))) vR vQ tr ⟨0, ep, eo, (a), 0, 0⟩ by rw [hw]; exact KS.put HK.out 6 HE6.out a (wrap64 (rd (ls 6) a + 1))); clear hw))
  have HONE : Aside0 ((sCells P g vR vQ tr).all (·.oneCell') = true) := ⟨by rw [← show sCells P g vR vQ tr = sCells P g vR vQ tr from rfl]; exact sOne _ (HK.out.ws.rs (Seen.refl g _)) HC.out HT.out⟩
  replace HK := am HK.out.drew
  refine sa 5 (fun w' => w'.heap[b4]? = some (.cells (sCells P g vR vQ tr) 70 (0, 0)) ∧ w'.heap[b7]? = some (.cells (eCells ⟨0, ep, eo, (a), 0, 0⟩) 75 (0, 0))) tailT55 (⟨HK.out.x4, HK.out.x7⟩) [3] (fun HT_ hHeld => ?_)
  generalize W.drew = W at hHeld HK ⊢
  refine ta 0 224 HT_ hHeld (v := (.agg (sCells P g vR vQ tr))) ?_ ?_
  · exact fun w' hS' => exec_load_row 70 (.tmp 4) rfl b4 rfl 70 (sCells P g vR vQ tr) (0, 0) _ hS'.1 Try.underlying70 rfl size70
  refine ta 1 225 HT_ hHeld (v := (.agg (eCells ⟨0, ep, eo, (a), 0, 0⟩))) ?_ ?_
  · exact fun w' hS' => exec_load_row 75 (.tmp 7) rfl b7 rfl 75 (eCells ⟨0, ep, eo, (a), 0, 0⟩) (0, 0) _ hS'.2 Try.underlying75 rfl size75
  refine on 2 (none) HT_ (fun K hK => ?_)
  refine skip_ (w1 := W.setRow b8 (sCells P g vR vQ tr)) (by rfl) rfl (exec_store_row 70 (.tmp 8) (.tmp 224) rfl b8 (sCells P g vR vQ tr) rfl rfl 70 _ HK.out.x8 size70 rfl HONE.out) ?_
  refine hK.out _ _ (⟨(setRow_other _ _ _ _ HK.out.n48).trans hHeld.1, (setRow_other _ _ _ _ (blk_ne HK.out.x7 HK.out.x8 (by decide))).trans hHeld.2⟩) (fun hHeld => ?_)
  clear hK K
  refine la 3 (none) HT_ (fun K hK => ?_)
  refine skip_ (w1 := (W.setRow b8 (sCells P g vR vQ tr)).setRow b9 (eCells ⟨0, ep, eo, (a), 0, 0⟩)) (by rfl) rfl (exec_store_row 75 (.tmp 9) (.tmp 225) rfl b9 (eCells ⟨0, ep, eo, (a), 0, 0⟩) rfl rfl 75 _ ((setRow_other _ _ _ _ (Ne.symm HK.out.n89)).trans HK.out.x9) size75 rfl (eOne _)) ?_
  refine hK.out _ _ ?_
  clear hK K
  refine pu 4 10 HT_ ?_
  refine dn HT_ ?_
  go_wp2
  obtain ⟨f1, f2, f3⟩ := KS.fin HK.out rfl (Seen.refl g _) rfl
  refine results3 rfl b8 b9 _ _ true f2 f3 ?hp ?hq ?hr ?hd f1
  case hp => rfl
  case hq => rfl
  case hr => rfl
  case hd => rfl
set_option maxHeartbeats 16000000 in
set_option maxRecDepth 100000 in
theorem sync16a (P : PV) (g : Nat → Value) (ls : Nat → List Int) (vR vQ : Value) (nc n : Nat) (tr : Int) (a b c ep eo eb : Int) (w : World) (lo : Nat) (h : WF w lo g g ls vR vQ nc) (hlo : lo ≤ w.heap.size) (hok : okI n ls ⟨16, a, b, c⟩) (h2 : (ls 2).length = 4) (h8 : (ls 8).length = nc) (hC : P.vC.oneCell' = true) (hT : P.vT.oneCell' = true) (hz : decide (rd (ls 6) a < 1) = false) :
    Calls Try.prog 55 #[.agg (sCells P g vR vQ tr), .int .i64 0, .agg (iCells ⟨16, a, b, c⟩), .agg (eCells ⟨0, ep, eo, eb, 0, 0⟩)] w (RetS w lo nc P (st ls 6 a (wrap64 (rd (ls 6) a - 1))) (0)) := by
  have HWS := am h
  have HLO := am hlo
  have HOK := am hok
  have H2 := am h2
  have H8 := am h8
  have HC := am hC
  have HT := am hT
  clear h hlo hok h2 h8 hC hT
  obtain ⟨rR, cR, eR⟩ : ∃ k c, vR = .slice (some ⟨k, 0, none⟩) 1 c := by
    obtain ⟨x, hr, _⟩ := HWS.out.r
    obtain ⟨k, c, e, _⟩ := outer_at hr 0 (Int.le_refl _) (by simp)
    exact ⟨k, c, e⟩
  obtain ⟨k2, c2, e2, _⟩ := HWS.out.at 2 0 (Int.le_refl _) (by rw [H2.out]; decide)
  rw [H2.out] at e2
  have HER := am eR
  have HE2 := am e2
  clear e2 eR
  obtain ⟨q0, q1⟩ := HOK.out.l1 (by simp)
  replace q0 : 0 ≤ a := q0
  replace q1 : a < ((ls 6).length : Int) := q1
  obtain ⟨k6, c6, e6, _⟩ := HWS.out.at 6 a q0 q1
  have HE6 := am e6
  clear e6
  have HPa6 := am (And.intro q0 q1)
  have ta0 := eq_true q0
  have ta61 := eq_true q1
  clear q0 q1
  go_enter Try.func55, Try.ntmps55
  go_wp2_with (first | ((with_reducible refine gd 4 ?_); refine bx 4 (sCells P g vR vQ tr) 70 ?_; intro b4 q4g W1 q4x q4b) | ((with_reducible refine gd 6 ?_); refine bx 6 (iCells ⟨16, a, b, c⟩) 33 ?_; intro b6 q6g W2 q6x q6b) | ((with_reducible refine gd 7 ?_); refine bx 7 (eCells ⟨0, ep, eo, eb, 0, 0⟩) 75 ?_; intro b7 q7g W3 q7x q7b) | ((with_reducible refine gd 8 ?_); refine bx 8 (zCells) 70 ?_; intro b8 q8g W4 q8x q8b) | ((with_reducible refine gd 9 ?_); refine bx 9 (zE) 75 ?_; intro b9 q9g W q9x q9b; have HK := am (show KS w W lo b4 b6 b7 b8 b9 P ⟨16, a, b, c⟩ nc g g (ls) vR vQ tr ⟨0, ep, eo, eb, 0, 0⟩ from ks_begin HWS.out HLO.out q4g q4x q4b q6g q6x q6b q7g q7x q7b q8g q8x q8b q9g q9x q9b); clear q4g q4x q4b q6g q6x q6b q7g q7x q7b q8g q8x q8b q9g q9x q9b W1 W2 W3 W4; have x9 := HK.out.vrc; have xr := HK.out.r2c HER.out; rw [HER.out] at x9; rw [HE2.out] at xr; have i1 := HK.out.i1; obtain ⟨e3, ef3⟩ := HK.out.e3; have i0 := HK.out.i0) | ((with_reducible refine gs 3 19 ?_); refine sv (W.setCell ⟨b7, 3, none⟩ (.int .i64 (a))) ?_; intro W hw; clear i1 e3 ef3 i0; replace HK := am (show KS w W lo b4 b6 b7 b8 b9 P ⟨16, a, b, c⟩ nc g g (ls) vR vQ tr ⟨0, ep, eo, (a), 0, 0⟩ by rw [hw]; exact KS.evs HK.out 3 (.int .i64 (a)) rfl); clear hw; have i0 := HK.out.i0; have i1 := HK.out.i1; have s12 := Box.at12 HK.out.x4; rw [HE6.out] at s12; obtain ⟨r6a, rf6a⟩ := HK.out.rc 6 HE6.out a HPa6.out.1 HPa6.out.2; obtain ⟨tc, tf⟩ := HK.out.trc; clear x9 xr) | (go_at_call 54; refine (number_any _ _).mono ?_; rintro e w_ ⟨rfl, hw_⟩; replace hw_ := hw_.symm; subst hw_) | ((with_reducible refine gs 3 93 ?_); refine sv (W.setCell ⟨b4, 18, none⟩ (.int .i64 (0))) ?_; intro W hw; clear i0 i1 s12 r6a rf6a tc tf; replace HK := am (show KS w W lo b4 b6 b7 b8 b9 P ⟨16, a, b, c⟩ nc g g (ls) vR vQ (0) ⟨0, ep, eo, (a), 0, 0⟩ by rw [hw]; exact KS.trap HK.out (0)); clear hw; obtain ⟨tc, tf⟩ := HK.out.trc; have i1 := HK.out.i1; have s12 := Box.at12 HK.out.x4; rw [HE6.out] at s12; obtain ⟨r6a, rf6a⟩ := HK.out.rc 6 HE6.out a HPa6.out.1 HPa6.out.2) | ((with_reducible refine gs 3 104 ?_); refine sv (W.setCell ⟨k6, (a : Int).toNat, none⟩ (.int .i64 (wrap64 (rd (ls 6) a - 1)))) ?_; intro W hw; clear tc tf i1 s12 r6a rf6a; replace HK := am (show KS w W lo b4 b6 b7 b8 b9 P ⟨16, a, b, c⟩ nc g g (st (ls) 6 a (wrap64 (rd (ls 6) a - 1))) vR vQ (0) ⟨0, ep, eo, (a), 0, 0⟩ by rw [hw]; exact KS.put HK.out 6 HE6.out a (wrap64 (rd (ls 6) a - 1))); clear hw))
  have HONE : Aside0 ((sCells P g vR vQ (0)).all (·.oneCell') = true) := ⟨by rw [← show sCells P g vR vQ (0) = sCells P g vR vQ (0) from rfl]; exact sOne _ (HK.out.ws.rs (Seen.refl g _)) HC.out HT.out⟩
  replace HK := am HK.out.drew
  refine sa 5 (fun w' => w'.heap[b4]? = some (.cells (sCells P g vR vQ (0)) 70 (0, 0)) ∧ w'.heap[b7]? = some (.cells (eCells ⟨0, ep, eo, (a), 0, 0⟩) 75 (0, 0))) tailT55 (⟨HK.out.x4, HK.out.x7⟩) [3] (fun HT_ hHeld => ?_)
  generalize W.drew = W at hHeld HK ⊢
  refine ta 0 224 HT_ hHeld (v := (.agg (sCells P g vR vQ (0)))) ?_ ?_
  · exact fun w' hS' => exec_load_row 70 (.tmp 4) rfl b4 rfl 70 (sCells P g vR vQ (0)) (0, 0) _ hS'.1 Try.underlying70 rfl size70
  refine ta 1 225 HT_ hHeld (v := (.agg (eCells ⟨0, ep, eo, (a), 0, 0⟩))) ?_ ?_
  · exact fun w' hS' => exec_load_row 75 (.tmp 7) rfl b7 rfl 75 (eCells ⟨0, ep, eo, (a), 0, 0⟩) (0, 0) _ hS'.2 Try.underlying75 rfl size75
  refine on 2 (none) HT_ (fun K hK => ?_)
  refine skip_ (w1 := W.setRow b8 (sCells P g vR vQ (0))) (by rfl) rfl (exec_store_row 70 (.tmp 8) (.tmp 224) rfl b8 (sCells P g vR vQ (0)) rfl rfl 70 _ HK.out.x8 size70 rfl HONE.out) ?_
  refine hK.out _ _ (⟨(setRow_other _ _ _ _ HK.out.n48).trans hHeld.1, (setRow_other _ _ _ _ (blk_ne HK.out.x7 HK.out.x8 (by decide))).trans hHeld.2⟩) (fun hHeld => ?_)
  clear hK K
  refine la 3 (none) HT_ (fun K hK => ?_)
  refine skip_ (w1 := (W.setRow b8 (sCells P g vR vQ (0))).setRow b9 (eCells ⟨0, ep, eo, (a), 0, 0⟩)) (by rfl) rfl (exec_store_row 75 (.tmp 9) (.tmp 225) rfl b9 (eCells ⟨0, ep, eo, (a), 0, 0⟩) rfl rfl 75 _ ((setRow_other _ _ _ _ (Ne.symm HK.out.n89)).trans HK.out.x9) size75 rfl (eOne _)) ?_
  refine hK.out _ _ ?_
  clear hK K
  refine pu 4 10 HT_ ?_
  refine dn HT_ ?_
  go_wp2
  obtain ⟨f1, f2, f3⟩ := KS.fin HK.out rfl (Seen.refl g _) rfl
  refine results3 rfl b8 b9 _ _ true f2 f3 ?hp ?hq ?hr ?hd f1
  case hp => rfl
  case hq => rfl
  case hr => rfl
  case hd => rfl
set_option maxHeartbeats 16000000 in
set_option maxRecDepth 100000 in
theorem sync16b (P : PV) (g : Nat → Value) (ls : Nat → List Int) (vR vQ : Value) (nc n : Nat) (tr : Int) (a b c ep eo eb : Int) (w : World) (lo : Nat) (h : WF w lo g g ls vR vQ nc) (hlo : lo ≤ w.heap.size) (hok : okI n ls ⟨16, a, b, c⟩) (h2 : (ls 2).length = 4) (h8 : (ls 8).length = nc) (hC : P.vC.oneCell' = true) (hT : P.vT.oneCell' = true) (hz : decide (rd (ls 6) a < 1) = true) :
    Calls Try.prog 55 #[.agg (sCells P g vR vQ tr), .int .i64 0, .agg (iCells ⟨16, a, b, c⟩), .agg (eCells ⟨0, ep, eo, eb, 0, 0⟩)] w (RetS w lo nc P (ls) (1)) := by
  have HWS := am h
  have HLO := am hlo
  have HOK := am hok
  have H2 := am h2
  have H8 := am h8
  have HC := am hC
  have HT := am hT
  clear h hlo hok h2 h8 hC hT
  obtain ⟨rR, cR, eR⟩ : ∃ k c, vR = .slice (some ⟨k, 0, none⟩) 1 c := by
    obtain ⟨x, hr, _⟩ := HWS.out.r
    obtain ⟨k, c, e, _⟩ := outer_at hr 0 (Int.le_refl _) (by simp)
    exact ⟨k, c, e⟩
  obtain ⟨k2, c2, e2, _⟩ := HWS.out.at 2 0 (Int.le_refl _) (by rw [H2.out]; decide)
  rw [H2.out] at e2
  have HER := am eR
  have HE2 := am e2
  clear e2 eR
  obtain ⟨q0, q1⟩ := HOK.out.l1 (by simp)
  replace q0 : 0 ≤ a := q0
  replace q1 : a < ((ls 6).length : Int) := q1
  obtain ⟨k6, c6, e6, _⟩ := HWS.out.at 6 a q0 q1
  have HE6 := am e6
  clear e6
  have HPa6 := am (And.intro q0 q1)
  have ta0 := eq_true q0
  have ta61 := eq_true q1
  clear q0 q1
  go_enter Try.func55, Try.ntmps55
  go_wp2_with (first | ((with_reducible refine gd 4 ?_); refine bx 4 (sCells P g vR vQ tr) 70 ?_; intro b4 q4g W1 q4x q4b) | ((with_reducible refine gd 6 ?_); refine bx 6 (iCells ⟨16, a, b, c⟩) 33 ?_; intro b6 q6g W2 q6x q6b) | ((with_reducible refine gd 7 ?_); refine bx 7 (eCells ⟨0, ep, eo, eb, 0, 0⟩) 75 ?_; intro b7 q7g W3 q7x q7b) | ((with_reducible refine gd 8 ?_); refine bx 8 (zCells) 70 ?_; intro b8 q8g W4 q8x q8b) | ((with_reducible refine gd 9 ?_); refine bx 9 (zE) 75 ?_; intro b9 q9g W q9x q9b; have HK := am (show KS w W lo b4 b6 b7 b8 b9 P ⟨16, a, b, c⟩ nc g g (ls) vR vQ tr ⟨0, ep, eo, eb, 0, 0⟩ from ks_begin HWS.out HLO.out q4g q4x q4b q6g q6x q6b q7g q7x q7b q8g q8x q8b q9g q9x q9b); clear q4g q4x q4b q6g q6x q6b q7g q7x q7b q8g q8x q8b q9g q9x q9b W1 W2 W3 W4; have x9 := HK.out.vrc; have xr := HK.out.r2c HER.out; rw [HER.out] at x9; rw [HE2.out] at xr; have i1 := HK.out.i1; obtain ⟨e3, ef3⟩ := HK.out.e3; have i0 := HK.out.i0) | ((with_reducible refine gs 3 19 ?_); refine sv (W.setCell ⟨b7, 3, none⟩ (.int .i64 (a))) ?_; intro W hw; clear i1 e3 ef3 i0; replace HK := am (show KS w W lo b4 b6 b7 b8 b9 P ⟨16, a, b, c⟩ nc g g (ls) vR vQ tr ⟨0, ep, eo, (a), 0, 0⟩ by rw [hw]; exact KS.evs HK.out 3 (.int .i64 (a)) rfl); clear hw; have i0 := HK.out.i0; have i1 := HK.out.i1; have s12 := Box.at12 HK.out.x4; rw [HE6.out] at s12; obtain ⟨r6a, rf6a⟩ := HK.out.rc 6 HE6.out a HPa6.out.1 HPa6.out.2; obtain ⟨tc, tf⟩ := HK.out.trc; clear x9 xr) | (go_at_call 54; refine (number_any _ _).mono ?_; rintro e w_ ⟨rfl, hw_⟩; replace hw_ := hw_.symm; subst hw_) | ((with_reducible refine gs 3 93 ?_); refine sv (W.setCell ⟨b4, 18, none⟩ (.int .i64 (1))) ?_; intro W hw; clear i0 i1 s12 r6a rf6a tc tf; replace HK := am (show KS w W lo b4 b6 b7 b8 b9 P ⟨16, a, b, c⟩ nc g g (ls) vR vQ (1) ⟨0, ep, eo, (a), 0, 0⟩ by rw [hw]; exact KS.trap HK.out (1)); clear hw; obtain ⟨tc, tf⟩ := HK.out.trc))
  have HONE : Aside0 ((sCells P g vR vQ (1)).all (·.oneCell') = true) := ⟨by rw [← show sCells P g vR vQ (1) = sCells P g vR vQ (1) from rfl]; exact sOne _ (HK.out.ws.rs (Seen.refl g _)) HC.out HT.out⟩
  replace HK := am HK.out.drew
  refine sa 5 (fun w' => w'.heap[b4]? = some (.cells (sCells P g vR vQ (1)) 70 (0, 0)) ∧ w'.heap[b7]? = some (.cells (eCells ⟨0, ep, eo, (a), 0, 0⟩) 75 (0, 0))) tailT55 (⟨HK.out.x4, HK.out.x7⟩) [3] (fun HT_ hHeld => ?_)
  generalize W.drew = W at hHeld HK ⊢
  refine ta 0 224 HT_ hHeld (v := (.agg (sCells P g vR vQ (1)))) ?_ ?_
  · exact fun w' hS' => exec_load_row 70 (.tmp 4) rfl b4 rfl 70 (sCells P g vR vQ (1)) (0, 0) _ hS'.1 Try.underlying70 rfl size70
  refine ta 1 225 HT_ hHeld (v := (.agg (eCells ⟨0, ep, eo, (a), 0, 0⟩))) ?_ ?_
  · exact fun w' hS' => exec_load_row 75 (.tmp 7) rfl b7 rfl 75 (eCells ⟨0, ep, eo, (a), 0, 0⟩) (0, 0) _ hS'.2 Try.underlying75 rfl size75
  refine on 2 (none) HT_ (fun K hK => ?_)
  refine skip_ (w1 := W.setRow b8 (sCells P g vR vQ (1))) (by rfl) rfl (exec_store_row 70 (.tmp 8) (.tmp 224) rfl b8 (sCells P g vR vQ (1)) rfl rfl 70 _ HK.out.x8 size70 rfl HONE.out) ?_
  refine hK.out _ _ (⟨(setRow_other _ _ _ _ HK.out.n48).trans hHeld.1, (setRow_other _ _ _ _ (blk_ne HK.out.x7 HK.out.x8 (by decide))).trans hHeld.2⟩) (fun hHeld => ?_)
  clear hK K
  refine la 3 (none) HT_ (fun K hK => ?_)
  refine skip_ (w1 := (W.setRow b8 (sCells P g vR vQ (1))).setRow b9 (eCells ⟨0, ep, eo, (a), 0, 0⟩)) (by rfl) rfl (exec_store_row 75 (.tmp 9) (.tmp 225) rfl b9 (eCells ⟨0, ep, eo, (a), 0, 0⟩) rfl rfl 75 _ ((setRow_other _ _ _ _ (Ne.symm HK.out.n89)).trans HK.out.x9) size75 rfl (eOne _)) ?_
  refine hK.out _ _ ?_
  clear hK K
  refine pu 4 10 HT_ ?_
  refine dn HT_ ?_
  go_wp2
  obtain ⟨f1, f2, f3⟩ := KS.fin HK.out rfl (Seen.refl g _) rfl
  refine results3 rfl b8 b9 _ _ true f2 f3 ?hp ?hq ?hr ?hd f1
  case hp => rfl
  case hq => rfl
  case hr => rfl
  case hd => rfl
set_option maxHeartbeats 16000000 in
set_option maxRecDepth 100000 in
theorem sync27a (P : PV) (g : Nat → Value) (ls : Nat → List Int) (vR vQ : Value) (nc n : Nat) (tr : Int) (a b c ep eo eb : Int) (w : World) (lo : Nat) (h : WF w lo g g ls vR vQ nc) (hlo : lo ≤ w.heap.size) (hok : okI n ls ⟨27, a, b, c⟩) (h2 : (ls 2).length = 4) (h8 : (ls 8).length = nc) (hC : P.vC.oneCell' = true) (hT : P.vT.oneCell' = true) (hz : rd (ls 10) a = 1) :
    Calls Try.prog 55 #[.agg (sCells P g vR vQ tr), .int .i64 0, .agg (iCells ⟨27, a, b, c⟩), .agg (eCells ⟨0, ep, eo, eb, 0, 0⟩)] w (RetS w lo nc P (st ls 10 a 2) (0)) := by
  have HWS := am h
  have HLO := am hlo
  have HOK := am hok
  have H2 := am h2
  have H8 := am h8
  have HC := am hC
  have HT := am hT
  clear h hlo hok h2 h8 hC hT
  obtain ⟨rR, cR, eR⟩ : ∃ k c, vR = .slice (some ⟨k, 0, none⟩) 1 c := by
    obtain ⟨x, hr, _⟩ := HWS.out.r
    obtain ⟨k, c, e, _⟩ := outer_at hr 0 (Int.le_refl _) (by simp)
    exact ⟨k, c, e⟩
  obtain ⟨k2, c2, e2, _⟩ := HWS.out.at 2 0 (Int.le_refl _) (by rw [H2.out]; decide)
  rw [H2.out] at e2
  have HER := am eR
  have HE2 := am e2
  clear e2 eR
  obtain ⟨q0, q1⟩ := HOK.out.e1 (by simp)
  replace q0 : 0 ≤ a := q0
  replace q1 : a < ((ls 10).length : Int) := q1
  obtain ⟨k10, c10, e10, _⟩ := HWS.out.at 10 a q0 q1
  have HE10 := am e10
  clear e10
  have HPa10 := am (And.intro q0 q1)
  have ta0 := eq_true q0
  have ta101 := eq_true q1
  clear q0 q1
  go_enter Try.func55, Try.ntmps55
  go_wp2_with (first | ((with_reducible refine gd 4 ?_); refine bx 4 (sCells P g vR vQ tr) 70 ?_; intro b4 q4g W1 q4x q4b) | ((with_reducible refine gd 6 ?_); refine bx 6 (iCells ⟨27, a, b, c⟩) 33 ?_; intro b6 q6g W2 q6x q6b) | ((with_reducible refine gd 7 ?_); refine bx 7 (eCells ⟨0, ep, eo, eb, 0, 0⟩) 75 ?_; intro b7 q7g W3 q7x q7b) | ((with_reducible refine gd 8 ?_); refine bx 8 (zCells) 70 ?_; intro b8 q8g W4 q8x q8b) | ((with_reducible refine gd 9 ?_); refine bx 9 (zE) 75 ?_; intro b9 q9g W q9x q9b; have HK := am (show KS w W lo b4 b6 b7 b8 b9 P ⟨27, a, b, c⟩ nc g g (ls) vR vQ tr ⟨0, ep, eo, eb, 0, 0⟩ from ks_begin HWS.out HLO.out q4g q4x q4b q6g q6x q6b q7g q7x q7b q8g q8x q8b q9g q9x q9b); clear q4g q4x q4b q6g q6x q6b q7g q7x q7b q8g q8x q8b q9g q9x q9b W1 W2 W3 W4; have x9 := HK.out.vrc; have xr := HK.out.r2c HER.out; rw [HER.out] at x9; rw [HE2.out] at xr; have i1 := HK.out.i1; obtain ⟨e3, ef3⟩ := HK.out.e3; have i0 := HK.out.i0) | ((with_reducible refine gs 3 19 ?_); refine sv (W.setCell ⟨b7, 3, none⟩ (.int .i64 (a))) ?_; intro W hw; clear i1 e3 ef3 i0; replace HK := am (show KS w W lo b4 b6 b7 b8 b9 P ⟨27, a, b, c⟩ nc g g (ls) vR vQ tr ⟨0, ep, eo, (a), 0, 0⟩ by rw [hw]; exact KS.evs HK.out 3 (.int .i64 (a)) rfl); clear hw; have i0 := HK.out.i0; have i1 := HK.out.i1; have s16 := Box.at16 HK.out.x4; rw [HE10.out] at s16; obtain ⟨r10a, rf10a⟩ := HK.out.rc 10 HE10.out a HPa10.out.1 HPa10.out.2; rw [hz] at r10a; obtain ⟨tc, tf⟩ := HK.out.trc; clear x9 xr) | (go_at_call 54; refine (number_any _ _).mono ?_; rintro e w_ ⟨rfl, hw_⟩; replace hw_ := hw_.symm; subst hw_) | ((with_reducible refine gs 3 163 ?_); refine sv (W.setCell ⟨b4, 18, none⟩ (.int .i64 (0))) ?_; intro W hw; clear i0 i1 s16 r10a rf10a tc tf; replace HK := am (show KS w W lo b4 b6 b7 b8 b9 P ⟨27, a, b, c⟩ nc g g (ls) vR vQ (0) ⟨0, ep, eo, (a), 0, 0⟩ by rw [hw]; exact KS.trap HK.out (0)); clear hw; obtain ⟨tc, tf⟩ := HK.out.trc; have i1 := HK.out.i1; have s16 := Box.at16 HK.out.x4; rw [HE10.out] at s16; obtain ⟨r10a, rf10a⟩ := HK.out.rc 10 HE10.out a HPa10.out.1 HPa10.out.2) | ((with_reducible refine gs 3 171 ?_); refine sv (W.setCell ⟨k10, (a : Int).toNat, none⟩ (.int .i64 (2))) ?_; intro W hw; clear tc tf i1 s16 r10a rf10a; replace HK := am (show KS w W lo b4 b6 b7 b8 b9 P ⟨27, a, b, c⟩ nc g g (st (ls) 10 a (2)) vR vQ (0) ⟨0, ep, eo, (a), 0, 0⟩ by rw [hw]; exact KS.put HK.out 10 HE10.out a (2)); clear hw))
  have HONE : Aside0 ((sCells P g vR vQ (0)).all (·.oneCell') = true) := ⟨by rw [← show sCells P g vR vQ (0) = sCells P g vR vQ (0) from rfl]; exact sOne _ (HK.out.ws.rs (Seen.refl g _)) HC.out HT.out⟩
  replace HK := am HK.out.drew
  refine sa 5 (fun w' => w'.heap[b4]? = some (.cells (sCells P g vR vQ (0)) 70 (0, 0)) ∧ w'.heap[b7]? = some (.cells (eCells ⟨0, ep, eo, (a), 0, 0⟩) 75 (0, 0))) tailT55 (⟨HK.out.x4, HK.out.x7⟩) [3] (fun HT_ hHeld => ?_)
  generalize W.drew = W at hHeld HK ⊢
  refine ta 0 224 HT_ hHeld (v := (.agg (sCells P g vR vQ (0)))) ?_ ?_
  · exact fun w' hS' => exec_load_row 70 (.tmp 4) rfl b4 rfl 70 (sCells P g vR vQ (0)) (0, 0) _ hS'.1 Try.underlying70 rfl size70
  refine ta 1 225 HT_ hHeld (v := (.agg (eCells ⟨0, ep, eo, (a), 0, 0⟩))) ?_ ?_
  · exact fun w' hS' => exec_load_row 75 (.tmp 7) rfl b7 rfl 75 (eCells ⟨0, ep, eo, (a), 0, 0⟩) (0, 0) _ hS'.2 Try.underlying75 rfl size75
  refine on 2 (none) HT_ (fun K hK => ?_)
  refine skip_ (w1 := W.setRow b8 (sCells P g vR vQ (0))) (by rfl) rfl (exec_store_row 70 (.tmp 8) (.tmp 224) rfl b8 (sCells P g vR vQ (0)) rfl rfl 70 _ HK.out.x8 size70 rfl HONE.out) ?_
  refine hK.out _ _ (⟨(setRow_other _ _ _ _ HK.out.n48).trans hHeld.1, (setRow_other _ _ _ _ (blk_ne HK.out.x7 HK.out.x8 (by decide))).trans hHeld.2⟩) (fun hHeld => ?_)
  clear hK K
  refine la 3 (none) HT_ (fun K hK => ?_)
  refine skip_ (w1 := (W.setRow b8 (sCells P g vR vQ (0))).setRow b9 (eCells ⟨0, ep, eo, (a), 0, 0⟩)) (by rfl) rfl (exec_store_row 75 (.tmp 9) (.tmp 225) rfl b9 (eCells ⟨0, ep, eo, (a), 0, 0⟩) rfl rfl 75 _ ((setRow_other _ _ _ _ (Ne.symm HK.out.n89)).trans HK.out.x9) size75 rfl (eOne _)) ?_
  refine hK.out _ _ ?_
  clear hK K
  refine pu 4 10 HT_ ?_
  refine dn HT_ ?_
  go_wp2
  obtain ⟨f1, f2, f3⟩ := KS.fin HK.out rfl (Seen.refl g _) rfl
  refine results3 rfl b8 b9 _ _ true f2 f3 ?hp ?hq ?hr ?hd f1
  case hp => rfl
  case hq => rfl
  case hr => rfl
  case hd => rfl
set_option maxHeartbeats 16000000 in
set_option maxRecDepth 100000 in
theorem sync27b (P : PV) (g : Nat → Value) (ls : Nat → List Int) (vR vQ : Value) (nc n : Nat) (tr : Int) (a b c ep eo eb : Int) (w : World) (lo : Nat) (h : WF w lo g g ls vR vQ nc) (hlo : lo ≤ w.heap.size) (hok : okI n ls ⟨27, a, b, c⟩) (h2 : (ls 2).length = 4) (h8 : (ls 8).length = nc) (hC : P.vC.oneCell' = true) (hT : P.vT.oneCell' = true) (hz : (rd (ls 10) a != 1) = true) :
    Calls Try.prog 55 #[.agg (sCells P g vR vQ tr), .int .i64 0, .agg (iCells ⟨27, a, b, c⟩), .agg (eCells ⟨0, ep, eo, eb, 0, 0⟩)] w (RetS w lo nc P (ls) (1)) := by
  have HWS := am h
  have HLO := am hlo
  have HOK := am hok
  have H2 := am h2
  have H8 := am h8
  have HC := am hC
  have HT := am hT
  clear h hlo hok h2 h8 hC hT
  obtain ⟨rR, cR, eR⟩ : ∃ k c, vR = .slice (some ⟨k, 0, none⟩) 1 c := by
    obtain ⟨x, hr, _⟩ := HWS.out.r
    obtain ⟨k, c, e, _⟩ := outer_at hr 0 (Int.le_refl _) (by simp)
    exact ⟨k, c, e⟩
  obtain ⟨k2, c2, e2, _⟩ := HWS.out.at 2 0 (Int.le_refl _) (by rw [H2.out]; decide)
  rw [H2.out] at e2
  have HER := am eR
  have HE2 := am e2
  clear e2 eR
  obtain ⟨q0, q1⟩ := HOK.out.e1 (by simp)
  replace q0 : 0 ≤ a := q0
  replace q1 : a < ((ls 10).length : Int) := q1
  obtain ⟨k10, c10, e10, _⟩ := HWS.out.at 10 a q0 q1
  have HE10 := am e10
  clear e10
  have HPa10 := am (And.intro q0 q1)
  have ta0 := eq_true q0
  have ta101 := eq_true q1
  clear q0 q1
  go_enter Try.func55, Try.ntmps55
  go_wp2_with (first | ((with_reducible refine gd 4 ?_); refine bx 4 (sCells P g vR vQ tr) 70 ?_; intro b4 q4g W1 q4x q4b) | ((with_reducible refine gd 6 ?_); refine bx 6 (iCells ⟨27, a, b, c⟩) 33 ?_; intro b6 q6g W2 q6x q6b) | ((with_reducible refine gd 7 ?_); refine bx 7 (eCells ⟨0, ep, eo, eb, 0, 0⟩) 75 ?_; intro b7 q7g W3 q7x q7b) | ((with_reducible refine gd 8 ?_); refine bx 8 (zCells) 70 ?_; intro b8 q8g W4 q8x q8b) | ((with_reducible refine gd 9 ?_); refine bx 9 (zE) 75 ?_; intro b9 q9g W q9x q9b; have HK := am (show KS w W lo b4 b6 b7 b8 b9 P ⟨27, a, b, c⟩ nc g g (ls) vR vQ tr ⟨0, ep, eo, eb, 0, 0⟩ from ks_begin HWS.out HLO.out q4g q4x q4b q6g q6x q6b q7g q7x q7b q8g q8x q8b q9g q9x q9b); clear q4g q4x q4b q6g q6x q6b q7g q7x q7b q8g q8x q8b q9g q9x q9b W1 W2 W3 W4; have x9 := HK.out.vrc; have xr := HK.out.r2c HER.out; rw [HER.out] at x9; rw [HE2.out] at xr; have i1 := HK.out.i1; obtain ⟨e3, ef3⟩ := HK.out.e3; have i0 := HK.out.i0) | ((with_reducible refine gs 3 19 ?_); refine sv (W.setCell ⟨b7, 3, none⟩ (.int .i64 (a))) ?_; intro W hw; clear i1 e3 ef3 i0; replace HK := am (show KS w W lo b4 b6 b7 b8 b9 P ⟨27, a, b, c⟩ nc g g (ls) vR vQ tr ⟨0, ep, eo, (a), 0, 0⟩ by rw [hw]; exact KS.evs HK.out 3 (.int .i64 (a)) rfl); clear hw; have i0 := HK.out.i0; have i1 := HK.out.i1; have s16 := Box.at16 HK.out.x4; rw [HE10.out] at s16; obtain ⟨r10a, rf10a⟩ := HK.out.rc 10 HE10.out a HPa10.out.1 HPa10.out.2; obtain ⟨tc, tf⟩ := HK.out.trc; clear x9 xr) | (go_at_call 54; refine (number_any _ _).mono ?_; rintro e w_ ⟨rfl, hw_⟩; replace hw_ := hw_.symm; subst hw_) | ((with_reducible refine gs 3 163 ?_); refine sv (W.setCell ⟨b4, 18, none⟩ (.int .i64 (1))) ?_; intro W hw; clear i0 i1 s16 r10a rf10a tc tf; replace HK := am (show KS w W lo b4 b6 b7 b8 b9 P ⟨27, a, b, c⟩ nc g g (ls) vR vQ (1) ⟨0, ep, eo, (a), 0, 0⟩ by rw [hw]; exact KS.trap HK.out (1)); clear hw; obtain ⟨tc, tf⟩ := HK.out.trc))
  have HONE : Aside0 ((sCells P g vR vQ (1)).all (·.oneCell') = true) := ⟨by rw [← show sCells P g vR vQ (1) = sCells P g vR vQ (1) from rfl]; exact sOne _ (HK.out.ws.rs (Seen.refl g _)) HC.out HT.out⟩
  replace HK := am HK.out.drew
  refine sa 5 (fun w' => w'.heap[b4]? = some (.cells (sCells P g vR vQ (1)) 70 (0, 0)) ∧ w'.heap[b7]? = some (.cells (eCells ⟨0, ep, eo, (a), 0, 0⟩) 75 (0, 0))) tailT55 (⟨HK.out.x4, HK.out.x7⟩) [3] (fun HT_ hHeld => ?_)
  generalize W.drew = W at hHeld HK ⊢
  refine ta 0 224 HT_ hHeld (v := (.agg (sCells P g vR vQ (1)))) ?_ ?_
  · exact fun w' hS' => exec_load_row 70 (.tmp 4) rfl b4 rfl 70 (sCells P g vR vQ (1)) (0, 0) _ hS'.1 Try.underlying70 rfl size70
  refine ta 1 225 HT_ hHeld (v := (.agg (eCells ⟨0, ep, eo, (a), 0, 0⟩))) ?_ ?_
  · exact fun w' hS' => exec_load_row 75 (.tmp 7) rfl b7 rfl 75 (eCells ⟨0, ep, eo, (a), 0, 0⟩) (0, 0) _ hS'.2 Try.underlying75 rfl size75
  refine on 2 (none) HT_ (fun K hK => ?_)
  refine skip_ (w1 := W.setRow b8 (sCells P g vR vQ (1))) (by rfl) rfl (exec_store_row 70 (.tmp 8) (.tmp 224) rfl b8 (sCells P g vR vQ (1)) rfl rfl 70 _ HK.out.x8 size70 rfl HONE.out) ?_
  refine hK.out _ _ (⟨(setRow_other _ _ _ _ HK.out.n48).trans hHeld.1, (setRow_other _ _ _ _ (blk_ne HK.out.x7 HK.out.x8 (by decide))).trans hHeld.2⟩) (fun hHeld => ?_)
  clear hK K
  refine la 3 (none) HT_ (fun K hK => ?_)
  refine skip_ (w1 := (W.setRow b8 (sCells P g vR vQ (1))).setRow b9 (eCells ⟨0, ep, eo, (a), 0, 0⟩)) (by rfl) rfl (exec_store_row 75 (.tmp 9) (.tmp 225) rfl b9 (eCells ⟨0, ep, eo, (a), 0, 0⟩) rfl rfl 75 _ ((setRow_other _ _ _ _ (Ne.symm HK.out.n89)).trans HK.out.x9) size75 rfl (eOne _)) ?_
  refine hK.out _ _ ?_
  clear hK K
  refine pu 4 10 HT_ ?_
  refine dn HT_ ?_
  go_wp2
  obtain ⟨f1, f2, f3⟩ := KS.fin HK.out rfl (Seen.refl g _) rfl
  refine results3 rfl b8 b9 _ _ true f2 f3 ?hp ?hq ?hr ?hd f1
  case hp => rfl
  case hq => rfl
  case hr => rfl
  case hd => rfl
set_option maxHeartbeats 16000000 in
set_option maxRecDepth 100000 in
theorem sync23 (P : PV) (g : Nat → Value) (ls : Nat → List Int) (vR vQ : Value) (nc n : Nat) (tr : Int) (a b c ep eo eb : Int) (w : World) (lo : Nat) (h : WF w lo g g ls vR vQ nc) (hlo : lo ≤ w.heap.size) (hok : okI n ls ⟨23, a, b, c⟩) (h2 : (ls 2).length = 4) (h8 : (ls 8).length = nc) (hC : P.vC.oneCell' = true) (hT : P.vT.oneCell' = true) :
    Calls Try.prog 55 #[.agg (sCells P g vR vQ tr), .int .i64 0, .agg (iCells ⟨23, a, b, c⟩), .agg (eCells ⟨0, ep, eo, eb, 0, 0⟩)] w (RetS w lo nc P (st ls 8 a 1) (rd (ls 8) a)) := by
  have HWS := am h
  have HLO := am hlo
  have HOK := am hok
  have H2 := am h2
  have H8 := am h8
  have HC := am hC
  have HT := am hT
  clear h hlo hok h2 h8 hC hT
  obtain ⟨rR, cR, eR⟩ : ∃ k c, vR = .slice (some ⟨k, 0, none⟩) 1 c := by
    obtain ⟨x, hr, _⟩ := HWS.out.r
    obtain ⟨k, c, e, _⟩ := outer_at hr 0 (Int.le_refl _) (by simp)
    exact ⟨k, c, e⟩
  obtain ⟨k2, c2, e2, _⟩ := HWS.out.at 2 0 (Int.le_refl _) (by rw [H2.out]; decide)
  rw [H2.out] at e2
  have HER := am eR
  have HE2 := am e2
  clear e2 eR
  obtain ⟨q0, q1⟩ := HOK.out.q1 (by simp)
  replace q0 : 0 ≤ a := q0
  replace q1 : a < ((ls 8).length : Int) := q1
  obtain ⟨k8, c8, e8, _⟩ := HWS.out.at 8 a q0 q1
  have HE8 := am e8
  clear e8
  have HPa8 := am (And.intro q0 q1)
  have ta0 := eq_true q0
  have ta81 := eq_true q1
  clear q0 q1
  go_enter Try.func55, Try.ntmps55
  go_wp2_with (first | ((with_reducible refine gd 4 ?_); refine bx 4 (sCells P g vR vQ tr) 70 ?_; intro b4 q4g W1 q4x q4b) | ((with_reducible refine gd 6 ?_); refine bx 6 (iCells ⟨23, a, b, c⟩) 33 ?_; intro b6 q6g W2 q6x q6b) | ((with_reducible refine gd 7 ?_); refine bx 7 (eCells ⟨0, ep, eo, eb, 0, 0⟩) 75 ?_; intro b7 q7g W3 q7x q7b) | ((with_reducible refine gd 8 ?_); refine bx 8 (zCells) 70 ?_; intro b8 q8g W4 q8x q8b) | ((with_reducible refine gd 9 ?_); refine bx 9 (zE) 75 ?_; intro b9 q9g W q9x q9b; have HK := am (show KS w W lo b4 b6 b7 b8 b9 P ⟨23, a, b, c⟩ nc g g (ls) vR vQ tr ⟨0, ep, eo, eb, 0, 0⟩ from ks_begin HWS.out HLO.out q4g q4x q4b q6g q6x q6b q7g q7x q7b q8g q8x q8b q9g q9x q9b); clear q4g q4x q4b q6g q6x q6b q7g q7x q7b q8g q8x q8b q9g q9x q9b W1 W2 W3 W4; have x9 := HK.out.vrc; have xr := HK.out.r2c HER.out; rw [HER.out] at x9; rw [HE2.out] at xr; have i1 := HK.out.i1; obtain ⟨e3, ef3⟩ := HK.out.e3; have i0 := HK.out.i0) | ((with_reducible refine gs 3 19 ?_); refine sv (W.setCell ⟨b7, 3, none⟩ (.int .i64 (a))) ?_; intro W hw; clear i1 e3 ef3 i0; replace HK := am (show KS w W lo b4 b6 b7 b8 b9 P ⟨23, a, b, c⟩ nc g g (ls) vR vQ tr ⟨0, ep, eo, (a), 0, 0⟩ by rw [hw]; exact KS.evs HK.out 3 (.int .i64 (a)) rfl); clear hw; have i0 := HK.out.i0; have i1 := HK.out.i1; have s14 := Box.at14 HK.out.x4; rw [HE8.out] at s14; obtain ⟨r8a, rf8a⟩ := HK.out.rc 8 HE8.out a HPa8.out.1 HPa8.out.2; obtain ⟨tc, tf⟩ := HK.out.trc; clear x9 xr) | (go_at_call 54; refine (number_any _ _).mono ?_; rintro e w_ ⟨rfl, hw_⟩; replace hw_ := hw_.symm; subst hw_) | ((with_reducible refine gs 3 216 ?_); refine sv (W.setCell ⟨b4, 18, none⟩ (.int .i64 (rd (ls 8) a))) ?_; intro W hw; clear i0 i1 s14 r8a rf8a tc tf; replace HK := am (show KS w W lo b4 b6 b7 b8 b9 P ⟨23, a, b, c⟩ nc g g (ls) vR vQ (rd (ls 8) a) ⟨0, ep, eo, (a), 0, 0⟩ by rw [hw]; exact KS.trap HK.out (rd (ls 8) a)); clear hw; have i1 := HK.out.i1; have s14 := Box.at14 HK.out.x4; rw [HE8.out] at s14; obtain ⟨r8a, rf8a⟩ := HK.out.rc 8 HE8.out a HPa8.out.1 HPa8.out.2) | ((with_reducible refine gs 3 221 ?_); refine sv (W.setCell ⟨k8, (a : Int).toNat, none⟩ (.int .i64 (1))) ?_; intro W hw; clear i1 s14 r8a rf8a; replace HK := am (show KS w W lo b4 b6 b7 b8 b9 P ⟨23, a, b, c⟩ nc g g (st (ls) 8 a (1)) vR vQ (rd (ls 8) a) ⟨0, ep, eo, (a), 0, 0⟩ by rw [hw]; exact KS.put HK.out 8 HE8.out a (1)); clear hw))
  have HONE : Aside0 ((sCells P g vR vQ (rd (ls 8) a)).all (·.oneCell') = true) := ⟨by rw [← show sCells P g vR vQ (rd (ls 8) a) = sCells P g vR vQ (rd (ls 8) a) from rfl]; exact sOne _ (HK.out.ws.rs (Seen.refl g _)) HC.out HT.out⟩
  replace HK := am HK.out.drew
  refine sa 5 (fun w' => w'.heap[b4]? = some (.cells (sCells P g vR vQ (rd (ls 8) a)) 70 (0, 0)) ∧ w'.heap[b7]? = some (.cells (eCells ⟨0, ep, eo, (a), 0, 0⟩) 75 (0, 0))) tailT55 (⟨HK.out.x4, HK.out.x7⟩) [3] (fun HT_ hHeld => ?_)
  generalize W.drew = W at hHeld HK ⊢
  refine ta 0 224 HT_ hHeld (v := (.agg (sCells P g vR vQ (rd (ls 8) a)))) ?_ ?_
  · exact fun w' hS' => exec_load_row 70 (.tmp 4) rfl b4 rfl 70 (sCells P g vR vQ (rd (ls 8) a)) (0, 0) _ hS'.1 Try.underlying70 rfl size70
  refine ta 1 225 HT_ hHeld (v := (.agg (eCells ⟨0, ep, eo, (a), 0, 0⟩))) ?_ ?_
  · exact fun w' hS' => exec_load_row 75 (.tmp 7) rfl b7 rfl 75 (eCells ⟨0, ep, eo, (a), 0, 0⟩) (0, 0) _ hS'.2 Try.underlying75 rfl size75
  refine on 2 (none) HT_ (fun K hK => ?_)
  refine skip_ (w1 := W.setRow b8 (sCells P g vR vQ (rd (ls 8) a))) (by rfl) rfl (exec_store_row 70 (.tmp 8) (.tmp 224) rfl b8 (sCells P g vR vQ (rd (ls 8) a)) rfl rfl 70 _ HK.out.x8 size70 rfl HONE.out) ?_
  refine hK.out _ _ (⟨(setRow_other _ _ _ _ HK.out.n48).trans hHeld.1, (setRow_other _ _ _ _ (blk_ne HK.out.x7 HK.out.x8 (by decide))).trans hHeld.2⟩) (fun hHeld => ?_)
  clear hK K
  refine la 3 (none) HT_ (fun K hK => ?_)
  refine skip_ (w1 := (W.setRow b8 (sCells P g vR vQ (rd (ls 8) a))).setRow b9 (eCells ⟨0, ep, eo, (a), 0, 0⟩)) (by rfl) rfl (exec_store_row 75 (.tmp 9) (.tmp 225) rfl b9 (eCells ⟨0, ep, eo, (a), 0, 0⟩) rfl rfl 75 _ ((setRow_other _ _ _ _ (Ne.symm HK.out.n89)).trans HK.out.x9) size75 rfl (eOne _)) ?_
  refine hK.out _ _ ?_
  clear hK K
  refine pu 4 10 HT_ ?_
  refine dn HT_ ?_
  go_wp2
  obtain ⟨f1, f2, f3⟩ := KS.fin HK.out rfl (Seen.refl g _) rfl
  refine results3 rfl b8 b9 _ _ true f2 f3 ?hp ?hq ?hr ?hd f1
  case hp => rfl
  case hq => rfl
  case hr => rfl
  case hd => rfl
set_option maxHeartbeats 16000000 in
set_option maxRecDepth 100000 in
theorem sync25 (P : PV) (g : Nat → Value) (ls : Nat → List Int) (vR vQ : Value) (nc n : Nat) (tr : Int) (a b c ep eo eb : Int) (w : World) (lo : Nat) (h : WF w lo g g ls vR vQ nc) (hlo : lo ≤ w.heap.size) (hok : okI n ls ⟨25, a, b, c⟩) (h2 : (ls 2).length = 4) (h8 : (ls 8).length = nc) (hC : P.vC.oneCell' = true) (hT : P.vT.oneCell' = true) :
    Calls Try.prog 55 #[.agg (sCells P g vR vQ tr), .int .i64 0, .agg (iCells ⟨25, a, b, c⟩), .agg (eCells ⟨0, ep, eo, eb, 0, 0⟩)] w (RetS w lo nc P (ls) (tr)) := by
  have HWS := am h
  have HLO := am hlo
  have HOK := am hok
  have H2 := am h2
  have H8 := am h8
  have HC := am hC
  have HT := am hT
  clear h hlo hok h2 h8 hC hT
  obtain ⟨rR, cR, eR⟩ : ∃ k c, vR = .slice (some ⟨k, 0, none⟩) 1 c := by
    obtain ⟨x, hr, _⟩ := HWS.out.r
    obtain ⟨k, c, e, _⟩ := outer_at hr 0 (Int.le_refl _) (by simp)
    exact ⟨k, c, e⟩
  obtain ⟨k2, c2, e2, _⟩ := HWS.out.at 2 0 (Int.le_refl _) (by rw [H2.out]; decide)
  rw [H2.out] at e2
  have HER := am eR
  have HE2 := am e2
  clear e2 eR
  go_enter Try.func55, Try.ntmps55
  go_wp2_with (first | ((with_reducible refine gd 4 ?_); refine bx 4 (sCells P g vR vQ tr) 70 ?_; intro b4 q4g W1 q4x q4b) | ((with_reducible refine gd 6 ?_); refine bx 6 (iCells ⟨25, a, b, c⟩) 33 ?_; intro b6 q6g W2 q6x q6b) | ((with_reducible refine gd 7 ?_); refine bx 7 (eCells ⟨0, ep, eo, eb, 0, 0⟩) 75 ?_; intro b7 q7g W3 q7x q7b) | ((with_reducible refine gd 8 ?_); refine bx 8 (zCells) 70 ?_; intro b8 q8g W4 q8x q8b) | ((with_reducible refine gd 9 ?_); refine bx 9 (zE) 75 ?_; intro b9 q9g W q9x q9b; have HK := am (show KS w W lo b4 b6 b7 b8 b9 P ⟨25, a, b, c⟩ nc g g (ls) vR vQ tr ⟨0, ep, eo, eb, 0, 0⟩ from ks_begin HWS.out HLO.out q4g q4x q4b q6g q6x q6b q7g q7x q7b q8g q8x q8b q9g q9x q9b); clear q4g q4x q4b q6g q6x q6b q7g q7x q7b q8g q8x q8b q9g q9x q9b W1 W2 W3 W4; have x9 := HK.out.vrc; have xr := HK.out.r2c HER.out; rw [HER.out] at x9; rw [HE2.out] at xr; have i1 := HK.out.i1; obtain ⟨e3, ef3⟩ := HK.out.e3; have i0 := HK.out.i0) | ((with_reducible refine gs 3 19 ?_); refine sv (W.setCell ⟨b7, 3, none⟩ (.int .i64 (a))) ?_; intro W hw; clear i1 e3 ef3 i0; replace HK := am (show KS w W lo b4 b6 b7 b8 b9 P ⟨25, a, b, c⟩ nc g g (ls) vR vQ tr ⟨0, ep, eo, (a), 0, 0⟩ by rw [hw]; exact KS.evs HK.out 3 (.int .i64 (a)) rfl); clear hw; have i0 := HK.out.i0; clear x9 xr) | (go_at_call 54; refine (number_any _ _).mono ?_; rintro e w_ ⟨rfl, hw_⟩; replace hw_ := hw_.symm; subst hw_))
  have HONE : Aside0 ((sCells P g vR vQ tr).all (·.oneCell') = true) := ⟨by rw [← show sCells P g vR vQ tr = sCells P g vR vQ tr from rfl]; exact sOne _ (HK.out.ws.rs (Seen.refl g _)) HC.out HT.out⟩
  replace HK := am HK.out.drew
  refine sa 5 (fun w' => w'.heap[b4]? = some (.cells (sCells P g vR vQ tr) 70 (0, 0)) ∧ w'.heap[b7]? = some (.cells (eCells ⟨0, ep, eo, (a), 0, 0⟩) 75 (0, 0))) tailT55 (⟨HK.out.x4, HK.out.x7⟩) [3] (fun HT_ hHeld => ?_)
  generalize W.drew = W at hHeld HK ⊢
  refine ta 0 224 HT_ hHeld (v := (.agg (sCells P g vR vQ tr))) ?_ ?_
  · exact fun w' hS' => exec_load_row 70 (.tmp 4) rfl b4 rfl 70 (sCells P g vR vQ tr) (0, 0) _ hS'.1 Try.underlying70 rfl size70
  refine ta 1 225 HT_ hHeld (v := (.agg (eCells ⟨0, ep, eo, (a), 0, 0⟩))) ?_ ?_
  · exact fun w' hS' => exec_load_row 75 (.tmp 7) rfl b7 rfl 75 (eCells ⟨0, ep, eo, (a), 0, 0⟩) (0, 0) _ hS'.2 Try.underlying75 rfl size75
  refine on 2 (none) HT_ (fun K hK => ?_)
  refine skip_ (w1 := W.setRow b8 (sCells P g vR vQ tr)) (by rfl) rfl (exec_store_row 70 (.tmp 8) (.tmp 224) rfl b8 (sCells P g vR vQ tr) rfl rfl 70 _ HK.out.x8 size70 rfl HONE.out) ?_
  refine hK.out _ _ (⟨(setRow_other _ _ _ _ HK.out.n48).trans hHeld.1, (setRow_other _ _ _ _ (blk_ne HK.out.x7 HK.out.x8 (by decide))).trans hHeld.2⟩) (fun hHeld => ?_)
  clear hK K
  refine la 3 (none) HT_ (fun K hK => ?_)
  refine skip_ (w1 := (W.setRow b8 (sCells P g vR vQ tr)).setRow b9 (eCells ⟨0, ep, eo, (a), 0, 0⟩)) (by rfl) rfl (exec_store_row 75 (.tmp 9) (.tmp 225) rfl b9 (eCells ⟨0, ep, eo, (a), 0, 0⟩) rfl rfl 75 _ ((setRow_other _ _ _ _ (Ne.symm HK.out.n89)).trans HK.out.x9) size75 rfl (eOne _)) ?_
  refine hK.out _ _ ?_
  clear hK K
  refine pu 4 10 HT_ ?_
  refine dn HT_ ?_
  go_wp2
  obtain ⟨f1, f2, f3⟩ := KS.fin HK.out rfl (Seen.refl g _) rfl
  refine results3 rfl b8 b9 _ _ true f2 f3 ?hp ?hq ?hr ?hd f1
  case hp => rfl
  case hq => rfl
  case hr => rfl
  case hd => rfl
set_option maxHeartbeats 16000000 in
set_option maxRecDepth 100000 in
theorem sync18 (P : PV) (g : Nat → Value) (ls : Nat → List Int) (vR vQ : Value) (nc n : Nat) (tr : Int) (a b c ep eo eb : Int) (w : World) (lo : Nat) (h : WF w lo g g ls vR vQ nc) (hlo : lo ≤ w.heap.size) (hok : okI n ls ⟨18, a, b, c⟩) (h2 : (ls 2).length = 4) (h8 : (ls 8).length = nc) (hC : P.vC.oneCell' = true) (hT : P.vT.oneCell' = true) :
    Calls Try.prog 55 #[.agg (sCells P g vR vQ tr), .int .i64 0, .agg (iCells ⟨18, a, b, c⟩), .agg (eCells ⟨0, ep, eo, eb, 0, 0⟩)] w (RetS w lo nc P (st ls 5 a (rd (ls 2) b)) (tr)) := by
  have HWS := am h
  have HLO := am hlo
  have HOK := am hok
  have H2 := am h2
  have H8 := am h8
  have HC := am hC
  have HT := am hT
  clear h hlo hok h2 h8 hC hT
  obtain ⟨rR, cR, eR⟩ : ∃ k c, vR = .slice (some ⟨k, 0, none⟩) 1 c := by
    obtain ⟨x, hr, _⟩ := HWS.out.r
    obtain ⟨k, c, e, _⟩ := outer_at hr 0 (Int.le_refl _) (by simp)
    exact ⟨k, c, e⟩
  obtain ⟨k2, c2, e2, _⟩ := HWS.out.at 2 0 (Int.le_refl _) (by rw [H2.out]; decide)
  rw [H2.out] at e2
  have HER := am eR
  have HE2 := am e2
  clear e2 eR
  obtain ⟨q0, q1⟩ := HOK.out.t1 (by simp)
  replace q0 : 0 ≤ a := q0
  replace q1 : a < ((ls 5).length : Int) := q1
  obtain ⟨k5, c5, e5, _⟩ := HWS.out.at 5 a q0 q1
  have HE5 := am e5
  clear e5
  have HPa5 := am (And.intro q0 q1)
  have ta0 := eq_true q0
  have ta51 := eq_true q1
  clear q0 q1
  obtain ⟨q0, q1⟩ := HOK.out.b2 (by simp)
  rw [H2.out] at q1
  replace q0 : 0 ≤ b := q0
  replace q1 : b < (4 : Int) := q1
  have HPb2 : Aside0 (0 ≤ b ∧ b < ((4 : Nat) : Int)) := ⟨⟨q0, q1⟩⟩
  have tb0 := eq_true q0
  have tb21 := eq_true q1
  clear q0 q1
  go_enter Try.func55, Try.ntmps55
  go_wp2_with (first | ((with_reducible refine gd 4 ?_); refine bx 4 (sCells P g vR vQ tr) 70 ?_; intro b4 q4g W1 q4x q4b) | ((with_reducible refine gd 6 ?_); refine bx 6 (iCells ⟨18, a, b, c⟩) 33 ?_; intro b6 q6g W2 q6x q6b) | ((with_reducible refine gd 7 ?_); refine bx 7 (eCells ⟨0, ep, eo, eb, 0, 0⟩) 75 ?_; intro b7 q7g W3 q7x q7b) | ((with_reducible refine gd 8 ?_); refine bx 8 (zCells) 70 ?_; intro b8 q8g W4 q8x q8b) | ((with_reducible refine gd 9 ?_); refine bx 9 (zE) 75 ?_; intro b9 q9g W q9x q9b; have HK := am (show KS w W lo b4 b6 b7 b8 b9 P ⟨18, a, b, c⟩ nc g g (ls) vR vQ tr ⟨0, ep, eo, eb, 0, 0⟩ from ks_begin HWS.out HLO.out q4g q4x q4b q6g q6x q6b q7g q7x q7b q8g q8x q8b q9g q9x q9b); clear q4g q4x q4b q6g q6x q6b q7g q7x q7b q8g q8x q8b q9g q9x q9b W1 W2 W3 W4; have x9 := HK.out.vrc; have xr := HK.out.r2c HER.out; rw [HER.out] at x9; rw [HE2.out] at xr; have i1 := HK.out.i1; obtain ⟨e3, ef3⟩ := HK.out.e3; have i0 := HK.out.i0) | ((with_reducible refine gs 3 19 ?_); refine sv (W.setCell ⟨b7, 3, none⟩ (.int .i64 (a))) ?_; intro W hw; clear i1 e3 ef3 i0; replace HK := am (show KS w W lo b4 b6 b7 b8 b9 P ⟨18, a, b, c⟩ nc g g (ls) vR vQ tr ⟨0, ep, eo, (a), 0, 0⟩ by rw [hw]; exact KS.evs HK.out 3 (.int .i64 (a)) rfl); clear hw; have i0 := HK.out.i0; have i1 := HK.out.i1; have i2 := HK.out.i2; have s11 := Box.at11 HK.out.x4; rw [HE5.out] at s11; obtain ⟨r5a, rf5a⟩ := HK.out.rc 5 HE5.out a HPa5.out.1 HPa5.out.2; obtain ⟨r2b, rf2b⟩ := HK.out.rc 2 HE2.out b HPb2.out.1 HPb2.out.2; clear x9 xr))
  go_still_tail 10, (by kernel_rfl)
  change wpList _ _ _ _ _ W.drew
  replace HK := am HK.out.drew
  generalize W.drew = W at HK ⊢
  try simp only [i64_w]
  clear i0 i1 i2 s11 r5a rf5a r2b rf2b
  obtain ⟨r5a, rf5a⟩ := HK.out.rc 5 HE5.out a HPa5.out.1 HPa5.out.2
  go_wp2_with (first | ((with_reducible refine gs 3 116 ?_); refine sv (W.setCell ⟨k5, (a : Int).toNat, none⟩ (.int .i64 (rd (ls 2) b))) ?_; intro W hw; clear r5a rf5a; replace HK := am (show KS w W lo b4 b6 b7 b8 b9 P ⟨18, a, b, c⟩ nc g g (st (ls) 5 a (rd (ls 2) b)) vR vQ tr ⟨0, ep, eo, (a), 0, 0⟩ by rw [hw]; exact KS.put HK.out 5 HE5.out a (rd (ls 2) b)); clear hw; have i2 := HK.out.i2; obtain ⟨r2b, rf2b⟩ := HK.out.rc 2 HE2.out b HPb2.out.1 HPb2.out.2; obtain ⟨e4, ef4⟩ := HK.out.e4) | ((with_reducible refine gs 3 122 ?_); refine sv (W.setCell ⟨b7, 4, none⟩ (.int .i64 (rd ((st (ls) 5 a (rd (ls 2) b)) 2) b))) ?_; intro W hw; clear i2 r2b rf2b e4 ef4; replace HK := am (show KS w W lo b4 b6 b7 b8 b9 P ⟨18, a, b, c⟩ nc g g (st (ls) 5 a (rd (ls 2) b)) vR vQ tr ⟨0, ep, eo, (a), (rd ((st (ls) 5 a (rd (ls 2) b)) 2) b), 0⟩ by rw [hw]; exact KS.evs HK.out 4 (.int .i64 (rd ((st (ls) 5 a (rd (ls 2) b)) 2) b)) rfl); clear hw))
  have HONE : Aside0 ((sCells P g vR vQ tr).all (·.oneCell') = true) := ⟨by rw [← show sCells P g vR vQ tr = sCells P g vR vQ tr from rfl]; exact sOne _ (HK.out.ws.rs (Seen.refl g _)) HC.out HT.out⟩
  replace HK := am HK.out.drew
  refine sa 5 (fun w' => w'.heap[b4]? = some (.cells (sCells P g vR vQ tr) 70 (0, 0)) ∧ w'.heap[b7]? = some (.cells (eCells ⟨0, ep, eo, (a), (rd ((st (ls) 5 a (rd (ls 2) b)) 2) b), 0⟩) 75 (0, 0))) tailT55 (⟨HK.out.x4, HK.out.x7⟩) [3] (fun HT_ hHeld => ?_)
  generalize W.drew = W at hHeld HK ⊢
  refine ta 0 224 HT_ hHeld (v := (.agg (sCells P g vR vQ tr))) ?_ ?_
  · exact fun w' hS' => exec_load_row 70 (.tmp 4) rfl b4 rfl 70 (sCells P g vR vQ tr) (0, 0) _ hS'.1 Try.underlying70 rfl size70
  refine ta 1 225 HT_ hHeld (v := (.agg (eCells ⟨0, ep, eo, (a), (rd ((st (ls) 5 a (rd (ls 2) b)) 2) b), 0⟩))) ?_ ?_
  · exact fun w' hS' => exec_load_row 75 (.tmp 7) rfl b7 rfl 75 (eCells ⟨0, ep, eo, (a), (rd ((st (ls) 5 a (rd (ls 2) b)) 2) b), 0⟩) (0, 0) _ hS'.2 Try.underlying75 rfl size75
  refine on 2 (none) HT_ (fun K hK => ?_)
  refine skip_ (w1 := W.setRow b8 (sCells P g vR vQ tr)) (by rfl) rfl (exec_store_row 70 (.tmp 8) (.tmp 224) rfl b8 (sCells P g vR vQ tr) rfl rfl 70 _ HK.out.x8 size70 rfl HONE.out) ?_
  refine hK.out _ _ (⟨(setRow_other _ _ _ _ HK.out.n48).trans hHeld.1, (setRow_other _ _ _ _ (blk_ne HK.out.x7 HK.out.x8 (by decide))).trans hHeld.2⟩) (fun hHeld => ?_)
  clear hK K
  refine la 3 (none) HT_ (fun K hK => ?_)
  refine skip_ (w1 := (W.setRow b8 (sCells P g vR vQ tr)).setRow b9 (eCells ⟨0, ep, eo, (a), (rd ((st (ls) 5 a (rd (ls 2) b)) 2) b), 0⟩)) (by rfl) rfl (exec_store_row 75 (.tmp 9) (.tmp 225) rfl b9 (eCells ⟨0, ep, eo, (a), (rd ((st (ls) 5 a (rd (ls 2) b)) 2) b), 0⟩) rfl rfl 75 _ ((setRow_other _ _ _ _ (Ne.symm HK.out.n89)).trans HK.out.x9) size75 rfl (eOne _)) ?_
  refine hK.out _ _ ?_
  clear hK K
  refine pu 4 10 HT_ ?_
  refine dn HT_ ?_
  go_wp2
  obtain ⟨f1, f2, f3⟩ := KS.fin HK.out rfl (Seen.refl g _) rfl
  refine results3 rfl b8 b9 _ _ true f2 f3 ?hp ?hq ?hr ?hd f1
  case hp => rfl
  case hq => rfl
  case hr => rfl
  case hd => rfl
set_option maxHeartbeats 16000000 in
set_option maxRecDepth 100000 in
theorem sync24a (P : PV) (g : Nat → Value) (ls : Nat → List Int) (vR vQ : Value) (nc n : Nat) (tr : Int) (a b c ep eo eb : Int) (w : World) (lo : Nat) (h : WF w lo g g ls vR vQ nc) (hlo : lo ≤ w.heap.size) (hok : okI n ls ⟨24, a, b, c⟩) (h2 : (ls 2).length = 4) (h8 : (ls 8).length = nc) (hC : P.vC.oneCell' = true) (hT : P.vT.oneCell' = true) (hz : decide (wrap64 (rd (ls 9) a + b) < 0) = false) :
    Calls Try.prog 55 #[.agg (sCells P g vR vQ tr), .int .i64 0, .agg (iCells ⟨24, a, b, c⟩), .agg (eCells ⟨0, ep, eo, eb, 0, 0⟩)] w (RetS w lo nc P (st ls 9 a (wrap64 (rd (ls 9) a + b))) (0)) := by
  have HWS := am h
  have HLO := am hlo
  have HOK := am hok
  have H2 := am h2
  have H8 := am h8
  have HC := am hC
  have HT := am hT
  clear h hlo hok h2 h8 hC hT
  obtain ⟨rR, cR, eR⟩ : ∃ k c, vR = .slice (some ⟨k, 0, none⟩) 1 c := by
    obtain ⟨x, hr, _⟩ := HWS.out.r
    obtain ⟨k, c, e, _⟩ := outer_at hr 0 (Int.le_refl _) (by simp)
    exact ⟨k, c, e⟩
  obtain ⟨k2, c2, e2, _⟩ := HWS.out.at 2 0 (Int.le_refl _) (by rw [H2.out]; decide)
  rw [H2.out] at e2
  have HER := am eR
  have HE2 := am e2
  clear e2 eR
  obtain ⟨q0, q1⟩ := HOK.out.g1 (by simp)
  replace q0 : 0 ≤ a := q0
  replace q1 : a < ((ls 9).length : Int) := q1
  obtain ⟨k9, c9, e9, _⟩ := HWS.out.at 9 a q0 q1
  have HE9 := am e9
  clear e9
  have HPa9 := am (And.intro q0 q1)
  have ta0 := eq_true q0
  have ta91 := eq_true q1
  clear q0 q1
  go_enter Try.func55, Try.ntmps55
  go_wp2_with (first | ((with_reducible refine gd 4 ?_); refine bx 4 (sCells P g vR vQ tr) 70 ?_; intro b4 q4g W1 q4x q4b) | ((with_reducible refine gd 6 ?_); refine bx 6 (iCells ⟨24, a, b, c⟩) 33 ?_; intro b6 q6g W2 q6x q6b) | ((with_reducible refine gd 7 ?_); refine bx 7 (eCells ⟨0, ep, eo, eb, 0, 0⟩) 75 ?_; intro b7 q7g W3 q7x q7b) | ((with_reducible refine gd 8 ?_); refine bx 8 (zCells) 70 ?_; intro b8 q8g W4 q8x q8b) | ((with_reducible refine gd 9 ?_); refine bx 9 (zE) 75 ?_; intro b9 q9g W q9x q9b; have HK := am (show KS w W lo b4 b6 b7 b8 b9 P ⟨24, a, b, c⟩ nc g g (ls) vR vQ tr ⟨0, ep, eo, eb, 0, 0⟩ from ks_begin HWS.out HLO.out q4g q4x q4b q6g q6x q6b q7g q7x q7b q8g q8x q8b q9g q9x q9b); clear q4g q4x q4b q6g q6x q6b q7g q7x q7b q8g q8x q8b q9g q9x q9b W1 W2 W3 W4; have x9 := HK.out.vrc; have xr := HK.out.r2c HER.out; rw [HER.out] at x9; rw [HE2.out] at xr; have i1 := HK.out.i1; obtain ⟨e3, ef3⟩ := HK.out.e3; have i0 := HK.out.i0) | ((with_reducible refine gs 3 19 ?_); refine sv (W.setCell ⟨b7, 3, none⟩ (.int .i64 (a))) ?_; intro W hw; clear i1 e3 ef3 i0; replace HK := am (show KS w W lo b4 b6 b7 b8 b9 P ⟨24, a, b, c⟩ nc g g (ls) vR vQ tr ⟨0, ep, eo, (a), 0, 0⟩ by rw [hw]; exact KS.evs HK.out 3 (.int .i64 (a)) rfl); clear hw; have i0 := HK.out.i0; have i2 := HK.out.i2; obtain ⟨e4, ef4⟩ := HK.out.e4; clear x9 xr) | ((with_reducible refine gs 3 127 ?_); refine sv (W.setCell ⟨b7, 4, none⟩ (.int .i64 (b))) ?_; intro W hw; clear i0 i2 e4 ef4; replace HK := am (show KS w W lo b4 b6 b7 b8 b9 P ⟨24, a, b, c⟩ nc g g (ls) vR vQ tr ⟨0, ep, eo, (a), (b), 0⟩ by rw [hw]; exact KS.evs HK.out 4 (.int .i64 (b)) rfl); clear hw; have i1 := HK.out.i1; have i2 := HK.out.i2; have s15 := Box.at15 HK.out.x4; rw [HE9.out] at s15; obtain ⟨r9a, rf9a⟩ := HK.out.rc 9 HE9.out a HPa9.out.1 HPa9.out.2; obtain ⟨tc, tf⟩ := HK.out.trc))
  refine wp_region_still_tail 12 (by kernel_rfl) (by kernel_rfl) ?_
  simp only [List.take_succ_cons, List.take_zero, List.drop_succ_cons, List.drop_zero]
  iterate 10 still_step
  still_call (number_any _ _)
  iterate 1 still_step
  refine wpStill_nil ?_
  change wpList _ _ _ _ _ W.drew
  replace HK := am HK.out.drew
  generalize W.drew = W at HK ⊢
  try simp only [i64_w]
  clear i1 i2 s15 r9a rf9a tc tf
  obtain ⟨tc, tf⟩ := HK.out.trc
  have z1 := eq_false (of_decide_eq_false hz)
  try simp only [i64_w, z1, decide_true, decide_false, if_true, Bool.false_eq_true, if_false]
  go_wp2_with (first | ((with_reducible refine gs 3 139 ?_); refine sv (W.setCell ⟨b4, 18, none⟩ (.int .i64 (0))) ?_; intro W hw; clear tc tf; replace HK := am (show KS w W lo b4 b6 b7 b8 b9 P ⟨24, a, b, c⟩ nc g g (ls) vR vQ (0) ⟨0, ep, eo, (a), (b), 0⟩ by rw [hw]; exact KS.trap HK.out (0)); clear hw; obtain ⟨tc, tf⟩ := HK.out.trc; have i1 := HK.out.i1; have i2 := HK.out.i2; have s15 := Box.at15 HK.out.x4; rw [HE9.out] at s15; obtain ⟨r9a, rf9a⟩ := HK.out.rc 9 HE9.out a HPa9.out.1 HPa9.out.2))
  go_still_tail 10, (by kernel_rfl)
  change wpList _ _ _ _ _ W.drew
  replace HK := am HK.out.drew
  generalize W.drew = W at HK ⊢
  try simp only [i64_w]
  clear tc tf i1 i2 s15 r9a rf9a
  obtain ⟨r9a, rf9a⟩ := HK.out.rc 9 HE9.out a HPa9.out.1 HPa9.out.2
  go_wp2_with (first | ((with_reducible refine gs 3 152 ?_); refine sv (W.setCell ⟨k9, (a : Int).toNat, none⟩ (.int .i64 (wrap64 (rd (ls 9) a + b)))) ?_; intro W hw; clear r9a rf9a; replace HK := am (show KS w W lo b4 b6 b7 b8 b9 P ⟨24, a, b, c⟩ nc g g (st (ls) 9 a (wrap64 (rd (ls 9) a + b))) vR vQ (0) ⟨0, ep, eo, (a), (b), 0⟩ by rw [hw]; exact KS.put HK.out 9 HE9.out a (wrap64 (rd (ls 9) a + b))); clear hw))
  have HONE : Aside0 ((sCells P g vR vQ (0)).all (·.oneCell') = true) := ⟨by rw [← show sCells P g vR vQ (0) = sCells P g vR vQ (0) from rfl]; exact sOne _ (HK.out.ws.rs (Seen.refl g _)) HC.out HT.out⟩
  replace HK := am HK.out.drew
  refine sa 5 (fun w' => w'.heap[b4]? = some (.cells (sCells P g vR vQ (0)) 70 (0, 0)) ∧ w'.heap[b7]? = some (.cells (eCells ⟨0, ep, eo, (a), (b), 0⟩) 75 (0, 0))) tailT55 (⟨HK.out.x4, HK.out.x7⟩) [3] (fun HT_ hHeld => ?_)
  generalize W.drew = W at hHeld HK ⊢
  refine ta 0 224 HT_ hHeld (v := (.agg (sCells P g vR vQ (0)))) ?_ ?_
  · exact fun w' hS' => exec_load_row 70 (.tmp 4) rfl b4 rfl 70 (sCells P g vR vQ (0)) (0, 0) _ hS'.1 Try.underlying70 rfl size70
  refine ta 1 225 HT_ hHeld (v := (.agg (eCells ⟨0, ep, eo, (a), (b), 0⟩))) ?_ ?_
  · exact fun w' hS' => exec_load_row 75 (.tmp 7) rfl b7 rfl 75 (eCells ⟨0, ep, eo, (a), (b), 0⟩) (0, 0) _ hS'.2 Try.underlying75 rfl size75
  refine on 2 (none) HT_ (fun K hK => ?_)
  refine skip_ (w1 := W.setRow b8 (sCells P g vR vQ (0))) (by rfl) rfl (exec_store_row 70 (.tmp 8) (.tmp 224) rfl b8 (sCells P g vR vQ (0)) rfl rfl 70 _ HK.out.x8 size70 rfl HONE.out) ?_
  refine hK.out _ _ (⟨(setRow_other _ _ _ _ HK.out.n48).trans hHeld.1, (setRow_other _ _ _ _ (blk_ne HK.out.x7 HK.out.x8 (by decide))).trans hHeld.2⟩) (fun hHeld => ?_)
  clear hK K
  refine la 3 (none) HT_ (fun K hK => ?_)
  refine skip_ (w1 := (W.setRow b8 (sCells P g vR vQ (0))).setRow b9 (eCells ⟨0, ep, eo, (a), (b), 0⟩)) (by rfl) rfl (exec_store_row 75 (.tmp 9) (.tmp 225) rfl b9 (eCells ⟨0, ep, eo, (a), (b), 0⟩) rfl rfl 75 _ ((setRow_other _ _ _ _ (Ne.symm HK.out.n89)).trans HK.out.x9) size75 rfl (eOne _)) ?_
  refine hK.out _ _ ?_
  clear hK K
  refine pu 4 10 HT_ ?_
  refine dn HT_ ?_
  go_wp2
  obtain ⟨f1, f2, f3⟩ := KS.fin HK.out rfl (Seen.refl g _) rfl
  refine results3 rfl b8 b9 _ _ true f2 f3 ?hp ?hq ?hr ?hd f1
  case hp => rfl
  case hq => rfl
  case hr => rfl
  case hd => rfl
set_option maxHeartbeats 16000000 in
set_option maxRecDepth 100000 in
theorem sync24b (P : PV) (g : Nat → Value) (ls : Nat → List Int) (vR vQ : Value) (nc n : Nat) (tr : Int) (a b c ep eo eb : Int) (w : World) (lo : Nat) (h : WF w lo g g ls vR vQ nc) (hlo : lo ≤ w.heap.size) (hok : okI n ls ⟨24, a, b, c⟩) (h2 : (ls 2).length = 4) (h8 : (ls 8).length = nc) (hC : P.vC.oneCell' = true) (hT : P.vT.oneCell' = true) (hz : decide (wrap64 (rd (ls 9) a + b) < 0) = true) :
    Calls Try.prog 55 #[.agg (sCells P g vR vQ tr), .int .i64 0, .agg (iCells ⟨24, a, b, c⟩), .agg (eCells ⟨0, ep, eo, eb, 0, 0⟩)] w (RetS w lo nc P (ls) (1)) := by
  have HWS := am h
  have HLO := am hlo
  have HOK := am hok
  have H2 := am h2
  have H8 := am h8
  have HC := am hC
  have HT := am hT
  clear h hlo hok h2 h8 hC hT
  obtain ⟨rR, cR, eR⟩ : ∃ k c, vR = .slice (some ⟨k, 0, none⟩) 1 c := by
    obtain ⟨x, hr, _⟩ := HWS.out.r
    obtain ⟨k, c, e, _⟩ := outer_at hr 0 (Int.le_refl _) (by simp)
    exact ⟨k, c, e⟩
  obtain ⟨k2, c2, e2, _⟩ := HWS.out.at 2 0 (Int.le_refl _) (by rw [H2.out]; decide)
  rw [H2.out] at e2
  have HER := am eR
  have HE2 := am e2
  clear e2 eR
  obtain ⟨q0, q1⟩ := HOK.out.g1 (by simp)
  replace q0 : 0 ≤ a := q0
  replace q1 : a < ((ls 9).length : Int) := q1
  obtain ⟨k9, c9, e9, _⟩ := HWS.out.at 9 a q0 q1
  have HE9 := am e9
  clear e9
  have HPa9 := am (And.intro q0 q1)
  have ta0 := eq_true q0
  have ta91 := eq_true q1
  clear q0 q1
  go_enter Try.func55, Try.ntmps55
  go_wp2_with (first | ((with_reducible refine gd 4 ?_); refine bx 4 (sCells P g vR vQ tr) 70 ?_; intro b4 q4g W1 q4x q4b) | ((with_reducible refine gd 6 ?_); refine bx 6 (iCells ⟨24, a, b, c⟩) 33 ?_; intro b6 q6g W2 q6x q6b) | ((with_reducible refine gd 7 ?_); refine bx 7 (eCells ⟨0, ep, eo, eb, 0, 0⟩) 75 ?_; intro b7 q7g W3 q7x q7b) | ((with_reducible refine gd 8 ?_); refine bx 8 (zCells) 70 ?_; intro b8 q8g W4 q8x q8b) | ((with_reducible refine gd 9 ?_); refine bx 9 (zE) 75 ?_; intro b9 q9g W q9x q9b; have HK := am (show KS w W lo b4 b6 b7 b8 b9 P ⟨24, a, b, c⟩ nc g g (ls) vR vQ tr ⟨0, ep, eo, eb, 0, 0⟩ from ks_begin HWS.out HLO.out q4g q4x q4b q6g q6x q6b q7g q7x q7b q8g q8x q8b q9g q9x q9b); clear q4g q4x q4b q6g q6x q6b q7g q7x q7b q8g q8x q8b q9g q9x q9b W1 W2 W3 W4; have x9 := HK.out.vrc; have xr := HK.out.r2c HER.out; rw [HER.out] at x9; rw [HE2.out] at xr; have i1 := HK.out.i1; obtain ⟨e3, ef3⟩ := HK.out.e3; have i0 := HK.out.i0) | ((with_reducible refine gs 3 19 ?_); refine sv (W.setCell ⟨b7, 3, none⟩ (.int .i64 (a))) ?_; intro W hw; clear i1 e3 ef3 i0; replace HK := am (show KS w W lo b4 b6 b7 b8 b9 P ⟨24, a, b, c⟩ nc g g (ls) vR vQ tr ⟨0, ep, eo, (a), 0, 0⟩ by rw [hw]; exact KS.evs HK.out 3 (.int .i64 (a)) rfl); clear hw; have i0 := HK.out.i0; have i2 := HK.out.i2; obtain ⟨e4, ef4⟩ := HK.out.e4; clear x9 xr) | ((with_reducible refine gs 3 127 ?_); refine sv (W.setCell ⟨b7, 4, none⟩ (.int .i64 (b))) ?_; intro W hw; clear i0 i2 e4 ef4; replace HK := am (show KS w W lo b4 b6 b7 b8 b9 P ⟨24, a, b, c⟩ nc g g (ls) vR vQ tr ⟨0, ep, eo, (a), (b), 0⟩ by rw [hw]; exact KS.evs HK.out 4 (.int .i64 (b)) rfl); clear hw; have i1 := HK.out.i1; have i2 := HK.out.i2; have s15 := Box.at15 HK.out.x4; rw [HE9.out] at s15; obtain ⟨r9a, rf9a⟩ := HK.out.rc 9 HE9.out a HPa9.out.1 HPa9.out.2; obtain ⟨tc, tf⟩ := HK.out.trc))
  refine wp_region_still_tail 12 (by kernel_rfl) (by kernel_rfl) ?_
  simp only [List.take_succ_cons, List.take_zero, List.drop_succ_cons, List.drop_zero]
  iterate 10 still_step
  still_call (number_any _ _)
  iterate 1 still_step
  refine wpStill_nil ?_
  change wpList _ _ _ _ _ W.drew
  replace HK := am HK.out.drew
  generalize W.drew = W at HK ⊢
  try simp only [i64_w]
  clear i1 i2 s15 r9a rf9a tc tf
  obtain ⟨tc, tf⟩ := HK.out.trc
  have z1 := eq_true (of_decide_eq_true hz)
  try simp only [i64_w, z1, decide_true, decide_false, if_true, Bool.false_eq_true, if_false]
  go_wp2_with (first | ((with_reducible refine gs 3 139 ?_); refine sv (W.setCell ⟨b4, 18, none⟩ (.int .i64 (1))) ?_; intro W hw; clear tc tf; replace HK := am (show KS w W lo b4 b6 b7 b8 b9 P ⟨24, a, b, c⟩ nc g g (ls) vR vQ (1) ⟨0, ep, eo, (a), (b), 0⟩ by rw [hw]; exact KS.trap HK.out (1)); clear hw; obtain ⟨tc, tf⟩ := HK.out.trc))
  have HONE : Aside0 ((sCells P g vR vQ (1)).all (·.oneCell') = true) := ⟨by rw [← show sCells P g vR vQ (1) = sCells P g vR vQ (1) from rfl]; exact sOne _ (HK.out.ws.rs (Seen.refl g _)) HC.out HT.out⟩
  replace HK := am HK.out.drew
  refine sa 5 (fun w' => w'.heap[b4]? = some (.cells (sCells P g vR vQ (1)) 70 (0, 0)) ∧ w'.heap[b7]? = some (.cells (eCells ⟨0, ep, eo, (a), (b), 0⟩) 75 (0, 0))) tailT55 (⟨HK.out.x4, HK.out.x7⟩) [3] (fun HT_ hHeld => ?_)
  generalize W.drew = W at hHeld HK ⊢
  refine ta 0 224 HT_ hHeld (v := (.agg (sCells P g vR vQ (1)))) ?_ ?_
  · exact fun w' hS' => exec_load_row 70 (.tmp 4) rfl b4 rfl 70 (sCells P g vR vQ (1)) (0, 0) _ hS'.1 Try.underlying70 rfl size70
  refine ta 1 225 HT_ hHeld (v := (.agg (eCells ⟨0, ep, eo, (a), (b), 0⟩))) ?_ ?_
  · exact fun w' hS' => exec_load_row 75 (.tmp 7) rfl b7 rfl 75 (eCells ⟨0, ep, eo, (a), (b), 0⟩) (0, 0) _ hS'.2 Try.underlying75 rfl size75
  refine on 2 (none) HT_ (fun K hK => ?_)
  refine skip_ (w1 := W.setRow b8 (sCells P g vR vQ (1))) (by rfl) rfl (exec_store_row 70 (.tmp 8) (.tmp 224) rfl b8 (sCells P g vR vQ (1)) rfl rfl 70 _ HK.out.x8 size70 rfl HONE.out) ?_
  refine hK.out _ _ (⟨(setRow_other _ _ _ _ HK.out.n48).trans hHeld.1, (setRow_other _ _ _ _ (blk_ne HK.out.x7 HK.out.x8 (by decide))).trans hHeld.2⟩) (fun hHeld => ?_)
  clear hK K
  refine la 3 (none) HT_ (fun K hK => ?_)
  refine skip_ (w1 := (W.setRow b8 (sCells P g vR vQ (1))).setRow b9 (eCells ⟨0, ep, eo, (a), (b), 0⟩)) (by rfl) rfl (exec_store_row 75 (.tmp 9) (.tmp 225) rfl b9 (eCells ⟨0, ep, eo, (a), (b), 0⟩) rfl rfl 75 _ ((setRow_other _ _ _ _ (Ne.symm HK.out.n89)).trans HK.out.x9) size75 rfl (eOne _)) ?_
  refine hK.out _ _ ?_
  clear hK K
  refine pu 4 10 HT_ ?_
  refine dn HT_ ?_
  go_wp2
  obtain ⟨f1, f2, f3⟩ := KS.fin HK.out rfl (Seen.refl g _) rfl
  refine results3 rfl b8 b9 _ _ true f2 f3 ?hp ?hq ?hr ?hd f1
  case hp => rfl
  case hq => rfl
  case hr => rfl
  case hd => rfl
theorem sendT : rtab .any (opsOf Try.f55 38) = (true, [([], []), ([0], [0]), ([], []), ([2], [2]), ([], []), ([4], [4]), ([], []), ([6], [6]), ([5, 7], [5, 7]), ([8], [8]), ([], []), ([], []), ([11], [11]), ([10, 12], [10, 12]), ([13], [13]), ([14], [14]), ([9, 15], [9, 15]), ([1, 3, 0, 1, 2, 3, 4, 5, 6, 7, 8, 9, 10, 11, 12, 13, 14, 15, 16], [1, 3]), ([17, 16, 16, 0, 1, 2, 3, 4, 5, 6, 7, 8, 9, 10, 11, 12, 13, 14, 15, 16], [16, 17])]) := by kernel_rfl
set_option maxHeartbeats 16000000 in
set_option maxRecDepth 100000 in
theorem sync20a (P : PV) (g : Nat → Value) (ls : Nat → List Int) (vR vQ : Value) (nc n : Nat) (tr : Int) (a b c ep eo eb : Int) (w : World) (lo : Nat) (h : WF w lo g g ls vR vQ nc) (hlo : lo ≤ w.heap.size) (hok : okI n ls ⟨20, a, b, c⟩) (h2 : (ls 2).length = 4) (h8 : (ls 8).length = nc) (hC : P.vC.oneCell' = true) (hT : P.vT.oneCell' = true) (hz : rd (ls 8) a = 0) (hq : (ls (12 + a.toNat)).length ≤ 1000000) :
    Calls Try.prog 55 #[.agg (sCells P g vR vQ tr), .int .i64 0, .agg (iCells ⟨20, a, b, c⟩), .agg (eCells ⟨0, ep, eo, eb, 0, 0⟩)] w (RetS w lo nc P (up ls (12 + a.toNat) (ls (12 + a.toNat) ++ [(rd (ls 2) b)])) (0)) := by
  have HWS := am h
  have HLO := am hlo
  have HOK := am hok
  have H2 := am h2
  have H8 := am h8
  have HC := am hC
  have HT := am hT
  clear h hlo hok h2 h8 hC hT
  obtain ⟨rR, cR, eR⟩ : ∃ k c, vR = .slice (some ⟨k, 0, none⟩) 1 c := by
    obtain ⟨x, hr, _⟩ := HWS.out.r
    obtain ⟨k, c, e, _⟩ := outer_at hr 0 (Int.le_refl _) (by simp)
    exact ⟨k, c, e⟩
  obtain ⟨k2, c2, e2, _⟩ := HWS.out.at 2 0 (Int.le_refl _) (by rw [H2.out]; decide)
  rw [H2.out] at e2
  have HER := am eR
  have HE2 := am e2
  clear e2 eR
  obtain ⟨q0, q1⟩ := HOK.out.q1 (by simp)
  replace q0 : 0 ≤ a := q0
  replace q1 : a < ((ls 8).length : Int) := q1
  obtain ⟨k8, c8, e8, _⟩ := HWS.out.at 8 a q0 q1
  have HE8 := am e8
  clear e8
  have HPa8 := am (And.intro q0 q1)
  have ta0 := eq_true q0
  have ta81 := eq_true q1
  clear q0 q1
  obtain ⟨q0, q1⟩ := HOK.out.b2 (by simp)
  rw [H2.out] at q1
  replace q0 : 0 ≤ b := q0
  replace q1 : b < (4 : Int) := q1
  have HPb2 : Aside0 (0 ≤ b ∧ b < ((4 : Nat) : Int)) := ⟨⟨q0, q1⟩⟩
  have tb0 := eq_true q0
  have tb21 := eq_true q1
  clear q0 q1
  have HQ := am hq
  clear hq
  obtain ⟨kQ, cQ, eQ, _⟩ := HWS.out.qc a HPa8.out.1 (by rw [← H8.out]; exact HPa8.out.2)
  have HEQ := am eQ
  clear eQ
  have tan := eq_true (show a < (nc : Int) by rw [← H8.out]; exact HPa8.out.2)
  obtain ⟨Ak, ck, ek⟩ := row_len (HWS.out.ms.row (12 + a.toNat))
  have HEK := am ek
  clear ek
  go_enter Try.func55, Try.ntmps55
  go_wp2_with (first | ((with_reducible refine gd 4 ?_); refine bx 4 (sCells P g vR vQ tr) 70 ?_; intro b4 q4g W1 q4x q4b) | ((with_reducible refine gd 6 ?_); refine bx 6 (iCells ⟨20, a, b, c⟩) 33 ?_; intro b6 q6g W2 q6x q6b) | ((with_reducible refine gd 7 ?_); refine bx 7 (eCells ⟨0, ep, eo, eb, 0, 0⟩) 75 ?_; intro b7 q7g W3 q7x q7b) | ((with_reducible refine gd 8 ?_); refine bx 8 (zCells) 70 ?_; intro b8 q8g W4 q8x q8b) | ((with_reducible refine gd 9 ?_); refine bx 9 (zE) 75 ?_; intro b9 q9g W q9x q9b; have HK := am (show KS w W lo b4 b6 b7 b8 b9 P ⟨20, a, b, c⟩ nc g g (ls) vR vQ tr ⟨0, ep, eo, eb, 0, 0⟩ from ks_begin HWS.out HLO.out q4g q4x q4b q6g q6x q6b q7g q7x q7b q8g q8x q8b q9g q9x q9b); clear q4g q4x q4b q6g q6x q6b q7g q7x q7b q8g q8x q8b q9g q9x q9b W1 W2 W3 W4; have x9 := HK.out.vrc; have xr := HK.out.r2c HER.out; rw [HER.out] at x9; rw [HE2.out] at xr; have i1 := HK.out.i1; obtain ⟨e3, ef3⟩ := HK.out.e3; have i0 := HK.out.i0) | ((with_reducible refine gs 3 19 ?_); refine sv (W.setCell ⟨b7, 3, none⟩ (.int .i64 (a))) ?_; intro W hw; clear i1 e3 ef3 i0; replace HK := am (show KS w W lo b4 b6 b7 b8 b9 P ⟨20, a, b, c⟩ nc g g (ls) vR vQ tr ⟨0, ep, eo, (a), 0, 0⟩ by rw [hw]; exact KS.evs HK.out 3 (.int .i64 (a)) rfl); clear hw; have i0 := HK.out.i0; have i2 := HK.out.i2; obtain ⟨r2b, rf2b⟩ := HK.out.rc 2 HE2.out b HPb2.out.1 HPb2.out.2; obtain ⟨e4, ef4⟩ := HK.out.e4; clear x9 xr) | ((with_reducible refine gs 3 179 ?_); refine sv (W.setCell ⟨b7, 4, none⟩ (.int .i64 (rd (ls 2) b))) ?_; intro W hw; clear i0 i2 r2b rf2b e4 ef4; replace HK := am (show KS w W lo b4 b6 b7 b8 b9 P ⟨20, a, b, c⟩ nc g g (ls) vR vQ tr ⟨0, ep, eo, (a), (rd (ls 2) b), 0⟩ by rw [hw]; exact KS.evs HK.out 4 (.int .i64 (rd (ls 2) b)) rfl); clear hw; have i1 := HK.out.i1; have s14 := Box.at14 HK.out.x4; rw [HE8.out] at s14; obtain ⟨r8a, rf8a⟩ := HK.out.rc 8 HE8.out a HPa8.out.1 HPa8.out.2; rw [hz] at r8a; obtain ⟨tc, tf⟩ := HK.out.trc) | ((with_reducible refine gs 3 186 ?_); refine sv (W.setCell ⟨b4, 18, none⟩ (.int .i64 (0))) ?_; intro W hw; clear i1 s14 r8a rf8a tc tf; replace HK := am (show KS w W lo b4 b6 b7 b8 b9 P ⟨20, a, b, c⟩ nc g g (ls) vR vQ (0) ⟨0, ep, eo, (a), (rd (ls 2) b), 0⟩ by rw [hw]; exact KS.trap HK.out (0)); clear hw; obtain ⟨tc, tf⟩ := HK.out.trc))
  clear tc tf
  obtain ⟨qc, _⟩ := HK.out.qc HEQ.out a HPa8.out.1 (by rw [← H8.out]; exact HPa8.out.2)
  obtain ⟨r2b, _⟩ := HK.out.rc 2 HE2.out b HPb2.out.1 HPb2.out.2
  rw [HEK.out] at qc
  have QR := am (And.intro qc r2b)
  clear qc r2b
  have HKw := HK
  replace HK := am HK.out.drew
  refine sa 19 (fun w' => w'.heap[b4]? = some (.cells (sCells P g vR vQ (0)) 70 (0, 0)) ∧ w'.heap[b6]? = some (.cells (iCells ⟨20, a, b, c⟩) 33 (0, 0)) ∧ w'.cell? ⟨kQ, a.toNat, none⟩ = some (.slice Ak (ls (12 + a.toNat)).length ck) ∧ w'.cell? ⟨k2, b.toNat, none⟩ = some (.int .i64 (rd (ls 2) b))) sendT (⟨HK.out.x4, HK.out.x6, QR.out.1, QR.out.2⟩) [18] (fun HT_ hHeld => ?_)
  generalize W.drew = W at hHeld HK ⊢
  clear HKw QR
  refine pu 0 190 HT_ ?_
  refine ta 1 191 HT_ hHeld (v := ?_) ?_ ?_; rotate_left
  · intro w' hS'; have y_ : w'.cell? ⟨b4, 13, none⟩ = some vQ := Box.at13 hS'.1; rw [HEQ.out] at y_; go_simp; with_reducible rfl
  refine pu 2 192 HT_ ?_
  refine ta 3 193 HT_ hHeld (v := ?_) ?_ ?_; rotate_left
  · intro w' hS'; have y_ : w'.cell? ⟨b6, 1, none⟩ = some (.int .i64 a) := blk_cell hS'.2.1 1; go_simp; with_reducible rfl
  refine pu 4 194 HT_ ?_
  refine ta 5 195 HT_ hHeld (v := ?_) ?_ ?_; rotate_left
  · intro w' hS'; have y_ : w'.cell? ⟨b4, 13, none⟩ = some vQ := Box.at13 hS'.1; rw [HEQ.out] at y_; go_simp; with_reducible rfl
  refine pu 6 196 HT_ ?_
  refine ta 7 197 HT_ hHeld (v := ?_) ?_ ?_; rotate_left
  · intro w' hS'; have y_ : w'.cell? ⟨b6, 1, none⟩ = some (.int .i64 a) := blk_cell hS'.2.1 1; go_simp; with_reducible rfl
  refine pu 8 198 HT_ ?_
  refine ta 9 199 HT_ hHeld (v := ?_) ?_ ?_; rotate_left
  · intro w' hS'; have y_ := hS'.2.2.1; go_simp; with_reducible rfl
  refine pu 10 200 HT_ ?_
  refine pu 11 201 HT_ ?_
  refine ta 12 202 HT_ hHeld (v := ?_) ?_ ?_; rotate_left
  · intro w' hS'; have y_ : w'.cell? ⟨b6, 2, none⟩ = some (.int .i64 b) := blk_cell hS'.2.1 2; go_simp; with_reducible rfl
  refine pu 13 203 HT_ ?_
  refine ta 14 204 HT_ hHeld (v := ?_) ?_ ?_; rotate_left
  · intro w' hS'; have y_ := hS'.2.2.2; go_simp; with_reducible rfl
  refine on 15 (some 205) HT_ (fun K hK => ?_)
  refine Kd.R_lit_step (Kd.int .i64) (w0 := W) W.heap.size 3 (by rfl) (N := 205) rfl (xs := [(rd (ls 2) b)]) (inner := [.int .i64 (rd (ls 2) b)]) (ok := fun _ => True) (okp := fun _ => False) ?hr (Kd.reps_scalar _) (fun _ h => h.elim) trivial (Below.refl _ _) (Nat.le_refl _) (by simp) ?_
  case hr => go_simp; try rfl
  intro vl w3 hl hb3 _ _
  obtain ⟨Al, cl, el⟩ := Kd.R_slice hl
  subst el
  have HL3 := am (Kd.R_reads' hl).2.2
  have HK3 := am (HK.out.below hb3)
  clear hl hb3
  refine hK.out _ _ (⟨HK3.out.x4, HK3.out.x6, by have h := (HK3.out.qc HEQ.out a HPa8.out.1 (by rw [← H8.out]; exact HPa8.out.2)).1; rw [HEK.out] at h; exact h, (HK3.out.rc 2 HE2.out b HPb2.out.1 HPb2.out.2).1⟩) (fun hHeld => ?_)
  clear hK K
  refine nm 205 ?_
  refine on 16 (some 206) HT_ (fun K hK => ?_)
  have hlo3 : lo ≤ w3.heap.size := Nat.le_trans (Nat.le_trans HK3.out.lo0 HK3.out.l4) (Nat.le_of_lt (blk_lt HK3.out.x4))
  refine Kd.R_append_rows_step (Kd.int .i64) (w0 := w) lo (by rfl) (.tmp 199) (.tmp 205) 23 3 (.int .i64 0) 8 rfl Try.underlying23 info3 rfl (by decide) (by omega) (.slice Ak (ls (12 + a.toNat)).length ck) (ls (12 + a.toNat)) [(rd (ls 2) b)] _ _ _ (fun _ => True) (fun _ => False) rfl rfl (by rw [← HEK.out]; exact Kd.R_mono (HK3.out.ws.ms.row (12 + a.toNat)) (fun _ _ => trivial)) HL3.out (fun _ _ h => h) (fun _ h => h.elim) (fun _ _ => trivial) HK3.out.be hlo3 (by have := HQ.out; simp only [List.length_cons, List.length_nil]; omega) ?_
  intro vn w4 hap _ hg4 hat
  rw [← HEK.out] at hg4 hat
  obtain ⟨An, cn, en⟩ := Kd.R_slice hap
  subst en
  have HK4 := am (HK3.out.growQ a.toNat hap hg4 hat)
  clear hap hg4 hat hlo3
  refine hK.out _ _ (⟨by have h := HK4.out.x4; unfold Box at h; rw [sCells_up _ _ _ _ _ _ _ (.inr (Nat.le_add_right _ _))] at h; exact h, HK4.out.x6, by have h := (HK4.out.qc HEQ.out a HPa8.out.1 (by rw [← H8.out]; exact HPa8.out.2)).1; rw [HEK.out] at h; exact h, by have h := (HK4.out.rc 2 (by rw [up_ne _ _ _ (by omega)]; exact HE2.out) b HPb2.out.1 HPb2.out.2).1; rw [up_ne _ _ _ (by omega)] at h; exact h⟩) (fun hHeld => ?_)
  clear hK K
  refine nm 206 ?_
  refine pu 17 207 HT_ ?_
  refine la 18 (none) HT_ (fun K hK => ?_)
  obtain ⟨qc, qf⟩ := HK4.out.qc HEQ.out a HPa8.out.1 (by rw [← H8.out]; exact HPa8.out.2)
  refine skip_ (w1 := (w4.setCell ⟨kQ, a.toNat, none⟩ (.slice An (ls (12 + a.toNat) ++ [(rd (ls 2) b)]).length cn))) (by rfl) rfl ?hr ?_
  case hr => go_simp; try rfl
  clear qc qf
  obtain ⟨w5, hw5⟩ : ∃ w5, w5 = w4.setCell ⟨kQ, a.toNat, none⟩ (.slice An (ls (12 + a.toNat) ++ [(rd (ls 2) b)]).length cn) := ⟨_, rfl⟩
  have HK5 := am (show KS w w5 lo b4 b6 b7 b8 b9 P ⟨20, a, b, c⟩ nc (up g (12 + a.toNat) (.slice An (ls (12 + a.toNat) ++ [(rd (ls 2) b)]).length cn)) (up g (12 + a.toNat) (.slice An (ls (12 + a.toNat) ++ [(rd (ls 2) b)]).length cn)) (up ls (12 + a.toNat) (ls (12 + a.toNat) ++ [(rd (ls 2) b)])) vR vQ (0) ⟨0, ep, eo, (a), (rd (ls 2) b), 0⟩ by rw [hw5]; exact HK4.out.qset HEQ.out a HPa8.out.1 (by rw [← H8.out]; exact HPa8.out.2) _ _ _)
  rw [← hw5]
  clear hw5
  refine hK.out _ _ ?_
  clear hK K
  refine dn HT_ ?_
  clear HK
  have HK := HK5
  clear HK5
  generalize w5 = W at HK ⊢
  go_wp2
  have HONE : Aside0 ((sCells P (up g (12 + a.toNat) (.slice An (ls (12 + a.toNat) ++ [(rd (ls 2) b)]).length cn)) vR vQ (0)).all (·.oneCell') = true) := ⟨by rw [← show sCells P (up g (12 + a.toNat) (.slice An (ls (12 + a.toNat) ++ [(rd (ls 2) b)]).length cn)) vR vQ (0) = sCells P (up g (12 + a.toNat) (.slice An (ls (12 + a.toNat) ++ [(rd (ls 2) b)]).length cn)) vR vQ (0) from rfl]; exact sOne _ (HK.out.ws.rs (Seen.refl (up g (12 + a.toNat) (.slice An (ls (12 + a.toNat) ++ [(rd (ls 2) b)]).length cn)) _)) HC.out HT.out⟩
  replace HK := am HK.out.drew
  refine sa 5 (fun w' => w'.heap[b4]? = some (.cells (sCells P (up g (12 + a.toNat) (.slice An (ls (12 + a.toNat) ++ [(rd (ls 2) b)]).length cn)) vR vQ (0)) 70 (0, 0)) ∧ w'.heap[b7]? = some (.cells (eCells ⟨0, ep, eo, (a), (rd (ls 2) b), 0⟩) 75 (0, 0))) tailT55 (⟨HK.out.x4, HK.out.x7⟩) [3] (fun HT_ hHeld => ?_)
  generalize W.drew = W at hHeld HK ⊢
  refine ta 0 224 HT_ hHeld (v := (.agg (sCells P (up g (12 + a.toNat) (.slice An (ls (12 + a.toNat) ++ [(rd (ls 2) b)]).length cn)) vR vQ (0)))) ?_ ?_
  · exact fun w' hS' => exec_load_row 70 (.tmp 4) rfl b4 rfl 70 (sCells P (up g (12 + a.toNat) (.slice An (ls (12 + a.toNat) ++ [(rd (ls 2) b)]).length cn)) vR vQ (0)) (0, 0) _ hS'.1 Try.underlying70 rfl size70
  refine ta 1 225 HT_ hHeld (v := (.agg (eCells ⟨0, ep, eo, (a), (rd (ls 2) b), 0⟩))) ?_ ?_
  · exact fun w' hS' => exec_load_row 75 (.tmp 7) rfl b7 rfl 75 (eCells ⟨0, ep, eo, (a), (rd (ls 2) b), 0⟩) (0, 0) _ hS'.2 Try.underlying75 rfl size75
  refine on 2 (none) HT_ (fun K hK => ?_)
  refine skip_ (w1 := W.setRow b8 (sCells P (up g (12 + a.toNat) (.slice An (ls (12 + a.toNat) ++ [(rd (ls 2) b)]).length cn)) vR vQ (0))) (by rfl) rfl (exec_store_row 70 (.tmp 8) (.tmp 224) rfl b8 (sCells P (up g (12 + a.toNat) (.slice An (ls (12 + a.toNat) ++ [(rd (ls 2) b)]).length cn)) vR vQ (0)) rfl rfl 70 _ HK.out.x8 size70 rfl HONE.out) ?_
  refine hK.out _ _ (⟨(setRow_other _ _ _ _ HK.out.n48).trans hHeld.1, (setRow_other _ _ _ _ (blk_ne HK.out.x7 HK.out.x8 (by decide))).trans hHeld.2⟩) (fun hHeld => ?_)
  clear hK K
  refine la 3 (none) HT_ (fun K hK => ?_)
  refine skip_ (w1 := (W.setRow b8 (sCells P (up g (12 + a.toNat) (.slice An (ls (12 + a.toNat) ++ [(rd (ls 2) b)]).length cn)) vR vQ (0))).setRow b9 (eCells ⟨0, ep, eo, (a), (rd (ls 2) b), 0⟩)) (by rfl) rfl (exec_store_row 75 (.tmp 9) (.tmp 225) rfl b9 (eCells ⟨0, ep, eo, (a), (rd (ls 2) b), 0⟩) rfl rfl 75 _ ((setRow_other _ _ _ _ (Ne.symm HK.out.n89)).trans HK.out.x9) size75 rfl (eOne _)) ?_
  refine hK.out _ _ ?_
  clear hK K
  refine pu 4 10 HT_ ?_
  refine dn HT_ ?_
  go_wp2
  obtain ⟨f1, f2, f3⟩ := KS.fin HK.out rfl (Seen.refl (up g (12 + a.toNat) (.slice An (ls (12 + a.toNat) ++ [(rd (ls 2) b)]).length cn)) _) rfl
  refine results3 rfl b8 b9 _ _ true f2 f3 ?hp ?hq ?hr ?hd f1
  case hp => rfl
  case hq => rfl
  case hr => rfl
  case hd => rfl
set_option maxHeartbeats 16000000 in
set_option maxRecDepth 100000 in
theorem sync20b (P : PV) (g : Nat → Value) (ls : Nat → List Int) (vR vQ : Value) (nc n : Nat) (tr : Int) (a b c ep eo eb : Int) (w : World) (lo : Nat) (h : WF w lo g g ls vR vQ nc) (hlo : lo ≤ w.heap.size) (hok : okI n ls ⟨20, a, b, c⟩) (h2 : (ls 2).length = 4) (h8 : (ls 8).length = nc) (hC : P.vC.oneCell' = true) (hT : P.vT.oneCell' = true) (hz : (rd (ls 8) a == 0) = false) :
    Calls Try.prog 55 #[.agg (sCells P g vR vQ tr), .int .i64 0, .agg (iCells ⟨20, a, b, c⟩), .agg (eCells ⟨0, ep, eo, eb, 0, 0⟩)] w (RetS w lo nc P (ls) (rd (ls 8) a)) := by
  have HWS := am h
  have HLO := am hlo
  have HOK := am hok
  have H2 := am h2
  have H8 := am h8
  have HC := am hC
  have HT := am hT
  clear h hlo hok h2 h8 hC hT
  obtain ⟨rR, cR, eR⟩ : ∃ k c, vR = .slice (some ⟨k, 0, none⟩) 1 c := by
    obtain ⟨x, hr, _⟩ := HWS.out.r
    obtain ⟨k, c, e, _⟩ := outer_at hr 0 (Int.le_refl _) (by simp)
    exact ⟨k, c, e⟩
  obtain ⟨k2, c2, e2, _⟩ := HWS.out.at 2 0 (Int.le_refl _) (by rw [H2.out]; decide)
  rw [H2.out] at e2
  have HER := am eR
  have HE2 := am e2
  clear e2 eR
  obtain ⟨q0, q1⟩ := HOK.out.q1 (by simp)
  replace q0 : 0 ≤ a := q0
  replace q1 : a < ((ls 8).length : Int) := q1
  obtain ⟨k8, c8, e8, _⟩ := HWS.out.at 8 a q0 q1
  have HE8 := am e8
  clear e8
  have HPa8 := am (And.intro q0 q1)
  have ta0 := eq_true q0
  have ta81 := eq_true q1
  clear q0 q1
  obtain ⟨q0, q1⟩ := HOK.out.b2 (by simp)
  rw [H2.out] at q1
  replace q0 : 0 ≤ b := q0
  replace q1 : b < (4 : Int) := q1
  have HPb2 : Aside0 (0 ≤ b ∧ b < ((4 : Nat) : Int)) := ⟨⟨q0, q1⟩⟩
  have tb0 := eq_true q0
  have tb21 := eq_true q1
  clear q0 q1
  go_enter Try.func55, Try.ntmps55
  go_wp2_with (first | ((with_reducible refine gd 4 ?_); refine bx 4 (sCells P g vR vQ tr) 70 ?_; intro b4 q4g W1 q4x q4b) | ((with_reducible refine gd 6 ?_); refine bx 6 (iCells ⟨20, a, b, c⟩) 33 ?_; intro b6 q6g W2 q6x q6b) | ((with_reducible refine gd 7 ?_); refine bx 7 (eCells ⟨0, ep, eo, eb, 0, 0⟩) 75 ?_; intro b7 q7g W3 q7x q7b) | ((with_reducible refine gd 8 ?_); refine bx 8 (zCells) 70 ?_; intro b8 q8g W4 q8x q8b) | ((with_reducible refine gd 9 ?_); refine bx 9 (zE) 75 ?_; intro b9 q9g W q9x q9b; have HK := am (show KS w W lo b4 b6 b7 b8 b9 P ⟨20, a, b, c⟩ nc g g (ls) vR vQ tr ⟨0, ep, eo, eb, 0, 0⟩ from ks_begin HWS.out HLO.out q4g q4x q4b q6g q6x q6b q7g q7x q7b q8g q8x q8b q9g q9x q9b); clear q4g q4x q4b q6g q6x q6b q7g q7x q7b q8g q8x q8b q9g q9x q9b W1 W2 W3 W4; have x9 := HK.out.vrc; have xr := HK.out.r2c HER.out; rw [HER.out] at x9; rw [HE2.out] at xr; have i1 := HK.out.i1; obtain ⟨e3, ef3⟩ := HK.out.e3; have i0 := HK.out.i0) | ((with_reducible refine gs 3 19 ?_); refine sv (W.setCell ⟨b7, 3, none⟩ (.int .i64 (a))) ?_; intro W hw; clear i1 e3 ef3 i0; replace HK := am (show KS w W lo b4 b6 b7 b8 b9 P ⟨20, a, b, c⟩ nc g g (ls) vR vQ tr ⟨0, ep, eo, (a), 0, 0⟩ by rw [hw]; exact KS.evs HK.out 3 (.int .i64 (a)) rfl); clear hw; have i0 := HK.out.i0; have i2 := HK.out.i2; obtain ⟨r2b, rf2b⟩ := HK.out.rc 2 HE2.out b HPb2.out.1 HPb2.out.2; obtain ⟨e4, ef4⟩ := HK.out.e4; clear x9 xr) | ((with_reducible refine gs 3 179 ?_); refine sv (W.setCell ⟨b7, 4, none⟩ (.int .i64 (rd (ls 2) b))) ?_; intro W hw; clear i0 i2 r2b rf2b e4 ef4; replace HK := am (show KS w W lo b4 b6 b7 b8 b9 P ⟨20, a, b, c⟩ nc g g (ls) vR vQ tr ⟨0, ep, eo, (a), (rd (ls 2) b), 0⟩ by rw [hw]; exact KS.evs HK.out 4 (.int .i64 (rd (ls 2) b)) rfl); clear hw; have i1 := HK.out.i1; have s14 := Box.at14 HK.out.x4; rw [HE8.out] at s14; obtain ⟨r8a, rf8a⟩ := HK.out.rc 8 HE8.out a HPa8.out.1 HPa8.out.2; obtain ⟨tc, tf⟩ := HK.out.trc) | ((with_reducible refine gs 3 186 ?_); refine sv (W.setCell ⟨b4, 18, none⟩ (.int .i64 (rd (ls 8) a))) ?_; intro W hw; clear i1 s14 r8a rf8a tc tf; replace HK := am (show KS w W lo b4 b6 b7 b8 b9 P ⟨20, a, b, c⟩ nc g g (ls) vR vQ (rd (ls 8) a) ⟨0, ep, eo, (a), (rd (ls 2) b), 0⟩ by rw [hw]; exact KS.trap HK.out (rd (ls 8) a)); clear hw; obtain ⟨tc, tf⟩ := HK.out.trc))
  have HONE : Aside0 ((sCells P g vR vQ (rd (ls 8) a)).all (·.oneCell') = true) := ⟨by rw [← show sCells P g vR vQ (rd (ls 8) a) = sCells P g vR vQ (rd (ls 8) a) from rfl]; exact sOne _ (HK.out.ws.rs (Seen.refl g _)) HC.out HT.out⟩
  replace HK := am HK.out.drew
  refine sa 5 (fun w' => w'.heap[b4]? = some (.cells (sCells P g vR vQ (rd (ls 8) a)) 70 (0, 0)) ∧ w'.heap[b7]? = some (.cells (eCells ⟨0, ep, eo, (a), (rd (ls 2) b), 0⟩) 75 (0, 0))) tailT55 (⟨HK.out.x4, HK.out.x7⟩) [3] (fun HT_ hHeld => ?_)
  generalize W.drew = W at hHeld HK ⊢
  refine ta 0 224 HT_ hHeld (v := (.agg (sCells P g vR vQ (rd (ls 8) a)))) ?_ ?_
  · exact fun w' hS' => exec_load_row 70 (.tmp 4) rfl b4 rfl 70 (sCells P g vR vQ (rd (ls 8) a)) (0, 0) _ hS'.1 Try.underlying70 rfl size70
  refine ta 1 225 HT_ hHeld (v := (.agg (eCells ⟨0, ep, eo, (a), (rd (ls 2) b), 0⟩))) ?_ ?_
  · exact fun w' hS' => exec_load_row 75 (.tmp 7) rfl b7 rfl 75 (eCells ⟨0, ep, eo, (a), (rd (ls 2) b), 0⟩) (0, 0) _ hS'.2 Try.underlying75 rfl size75
  refine on 2 (none) HT_ (fun K hK => ?_)
  refine skip_ (w1 := W.setRow b8 (sCells P g vR vQ (rd (ls 8) a))) (by rfl) rfl (exec_store_row 70 (.tmp 8) (.tmp 224) rfl b8 (sCells P g vR vQ (rd (ls 8) a)) rfl rfl 70 _ HK.out.x8 size70 rfl HONE.out) ?_
  refine hK.out _ _ (⟨(setRow_other _ _ _ _ HK.out.n48).trans hHeld.1, (setRow_other _ _ _ _ (blk_ne HK.out.x7 HK.out.x8 (by decide))).trans hHeld.2⟩) (fun hHeld => ?_)
  clear hK K
  refine la 3 (none) HT_ (fun K hK => ?_)
  refine skip_ (w1 := (W.setRow b8 (sCells P g vR vQ (rd (ls 8) a))).setRow b9 (eCells ⟨0, ep, eo, (a), (rd (ls 2) b), 0⟩)) (by rfl) rfl (exec_store_row 75 (.tmp 9) (.tmp 225) rfl b9 (eCells ⟨0, ep, eo, (a), (rd (ls 2) b), 0⟩) rfl rfl 75 _ ((setRow_other _ _ _ _ (Ne.symm HK.out.n89)).trans HK.out.x9) size75 rfl (eOne _)) ?_
  refine hK.out _ _ ?_
  clear hK K
  refine pu 4 10 HT_ ?_
  refine dn HT_ ?_
  go_wp2
  obtain ⟨f1, f2, f3⟩ := KS.fin HK.out rfl (Seen.refl g _) rfl
  refine results3 rfl b8 b9 _ _ true f2 f3 ?hp ?hq ?hr ?hd f1
  case hp => rfl
  case hq => rfl
  case hr => rfl
  case hd => rfl
end Go.Proofs.Yticdodbnjlnjlaa.P
