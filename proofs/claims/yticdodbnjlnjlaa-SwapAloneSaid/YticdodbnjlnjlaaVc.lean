import Derived.StillTailTactics
import Derived.Test.YticdodbnjlnjlaaV7
import Derived.Test.YticdodbnjlnjlaaV8
namespace Go.Proofs.Yticdodbnjlnjlaa.P
open Go.RowKit Go.Proofs.YticdodbnjlnjlaaW.PrintWords Go.Proofs.YticdodbnjlnjlaaW.PrintLast Go.Proofs.YticdodbnjlnjlaaW.PrintMore
attribute [local go_sem] max2_int min2_int max_two min_two max_three min_three max_four min_four
attribute [local irreducible] Calls
set_option linter.unusedVariables false
set_option linter.unusedSimpArgs false
set_option maxRecDepth 100000 in
theorem taken_any (P : PV) (g : Nat → Value) (ls : Nat → List Int) (vR vQ : Value) (nc n : Nat) (tr : Int) (i : S33) (ep eo eb : Int) (w : World) (lo : Nat) (h : WF w lo g g ls vR vQ nc) (hlo : lo ≤ w.heap.size) (hok : okI n ls i) (h2 : (ls 2).length = 4) (h8 : (ls 8).length = nc) (hC : P.vC.oneCell' = true) (hT : P.vT.oneCell' = true) (hop : i.f0 = 17 ∨ i.f0 = 19 ∨ i.f0 = 21 ∨ i.f0 = 22 ∨ i.f0 = 26) :
    Calls Try.prog 63 #[.agg (sCells P g vR vQ tr), .int .i64 0, .agg (iCells i), .agg (eCells ⟨0, ep, eo, eb, 0, 0⟩)] w (RetS w lo nc P (takenF ls i) tr) := by
  obtain ⟨o, a, b, c⟩ := i
  have hop : o = 17 ∨ o = 19 ∨ o = 21 ∨ o = 22 ∨ o = 26 := hop
  by_cases c17 : o = 17
  · subst c17
    exact taken17 P g ls vR vQ nc n tr a b c ep eo eb w lo h hlo hok h2 h8 hC hT
  by_cases c19 : o = 19
  · subst c19
    exact taken19 P g ls vR vQ nc n tr a b c ep eo eb w lo h hlo hok h2 h8 hC hT
  by_cases c26 : o = 26
  · subst c26
    by_cases hz : rd (ls 10) b = 0
    · rw [show takenF ls ⟨26, a, b, c⟩ = (if rd (ls 10) b = 0 then st (st ls 10 b 1) 2 a 1 else st ls 2 a 0) from rfl, if_pos hz]
      exact taken26a P g ls vR vQ nc n tr a b c ep eo eb w lo h hlo hok h2 h8 hC hT hz
    · rw [show takenF ls ⟨26, a, b, c⟩ = (if rd (ls 10) b = 0 then st (st ls 10 b 1) 2 a 1 else st ls 2 a 0) from rfl, if_neg hz]
      exact taken26b P g ls vR vQ nc n tr a b c ep eo eb w lo h hlo hok h2 h8 hC hT (beq_eq_false_iff_ne.2 hz)
  by_cases c21 : o = 21
  · subst c21
    cases hq : ls (12 + b.toNat) with
    | cons x t =>
      rw [show takenF ls ⟨21, a, b, c⟩ = (match ls (12 + b.toNat) with | x :: t => st (up ls (12 + b.toNat) t) 2 a x | [] => st ls 2 a 0) from rfl, hq]
      exact taken21a P g ls vR vQ nc n tr a b c ep eo eb w lo h hlo hok h2 h8 hC hT x t hq
    | nil =>
      rw [show takenF ls ⟨21, a, b, c⟩ = (match ls (12 + b.toNat) with | x :: t => st (up ls (12 + b.toNat) t) 2 a x | [] => st ls 2 a 0) from rfl, hq]
      by_cases hk : rd (ls 8) b = 1
      · exact taken21b P g ls vR vQ nc n tr a b c ep eo eb w lo h hlo hok h2 h8 hC hT hq hk
      · exact taken21c P g ls vR vQ nc n tr a b c ep eo eb w lo h hlo hok h2 h8 hC hT hq (beq_eq_false_iff_ne.2 hk)
  obtain rfl : o = 22 := by omega
  cases hq : ls (12 + b.toNat) with
  | cons x t =>
    rw [show takenF ls ⟨22, a, b, c⟩ = (match ls (12 + b.toNat) with | x :: t => st (st (up ls (12 + b.toNat) t) 2 a x) 2 c 1 | [] => st (st ls 2 a 0) 2 c 0) from rfl, hq]
    exact taken22a P g ls vR vQ nc n tr a b c ep eo eb w lo h hlo hok h2 h8 hC hT x t hq
  | nil =>
    rw [show takenF ls ⟨22, a, b, c⟩ = (match ls (12 + b.toNat) with | x :: t => st (st (up ls (12 + b.toNat) t) 2 a x) 2 c 1 | [] => st (st ls 2 a 0) 2 c 0) from rfl, hq]
    by_cases hk : rd (ls 8) b = 1
    · exact taken22b P g ls vR vQ nc n tr a b c ep eo eb w lo h hlo hok h2 h8 hC hT hq hk
    · exact taken22c P g ls vR vQ nc n tr a b c ep eo eb w lo h hlo hok h2 h8 hC hT hq (beq_eq_false_iff_ne.2 hk)
set_option maxHeartbeats 16000000 in
set_option maxRecDepth 100000 in
theorem sync_def (P : PV) (g : Nat → Value) (ls : Nat → List Int) (vR vQ : Value) (nc n : Nat) (tr : Int) (o a b c ep eo eb : Int) (w : World) (lo : Nat) (h : WF w lo g g ls vR vQ nc) (hlo : lo ≤ w.heap.size) (hok : okI n ls ⟨o, a, b, c⟩) (h2 : (ls 2).length = 4) (h8 : (ls 8).length = nc) (hC : P.vC.oneCell' = true) (hT : P.vT.oneCell' = true) (hop : o = 17 ∨ o = 19 ∨ o = 21 ∨ o = 22 ∨ o = 26) :
    Calls Try.prog 55 #[.agg (sCells P g vR vQ tr), .int .i64 0, .agg (iCells ⟨o, a, b, c⟩), .agg (eCells ⟨0, ep, eo, eb, 0, 0⟩)] w (RetS w lo nc P (takenF ls ⟨o, a, b, c⟩) (tr)) := by
  have HWS := am h
  have HLO := am hlo
  have HOK := am hok
  have H2 := am h2
  have H8 := am h8
  have HC := am hC
  have HT := am hT
  clear h hlo hok h2 h8 hC hT
  obtain ⟨rR, cR, eR⟩ : ∃ k c, vR = .slice (some ⟨k, 0, none⟩) 1 c := by
    obtain ⟨x, hr, _⟩ := HWS.out.r
    obtain ⟨k, c, e, _⟩ := outer_at hr 0 (Int.le_refl _) (by simp)
    exact ⟨k, c, e⟩
  obtain ⟨k2, c2, e2, _⟩ := HWS.out.at 2 0 (Int.le_refl _) (by rw [H2.out]; decide)
  rw [H2.out] at e2
  have HER := am eR
  have HE2 := am e2
  clear e2 eR
  have HOP : Aside0 (o = 17 ∨ o = 19 ∨ o = 21 ∨ o = 22 ∨ o = 26) := ⟨hop⟩
  have n0 : (o == 0) = false := beq_eq_false_iff_ne.2 (by omega)
  have n12 : (o == 12) = false := beq_eq_false_iff_ne.2 (by omega)
  have n13 : (o == 13) = false := beq_eq_false_iff_ne.2 (by omega)
  have n14 : (o == 14) = false := beq_eq_false_iff_ne.2 (by omega)
  have n15 : (o == 15) = false := beq_eq_false_iff_ne.2 (by omega)
  have n16 : (o == 16) = false := beq_eq_false_iff_ne.2 (by omega)
  have n18 : (o == 18) = false := beq_eq_false_iff_ne.2 (by omega)
  have n24 : (o == 24) = false := beq_eq_false_iff_ne.2 (by omega)
  have n27 : (o == 27) = false := beq_eq_false_iff_ne.2 (by omega)
  have n20 : (o == 20) = false := beq_eq_false_iff_ne.2 (by omega)
  have n23 : (o == 23) = false := beq_eq_false_iff_ne.2 (by omega)
  have n25 : (o == 25) = false := beq_eq_false_iff_ne.2 (by omega)
  clear hop
  go_enter Try.func55, Try.ntmps55
  go_wp2_with (first | ((with_reducible refine gd 4 ?_); refine bx 4 (sCells P g vR vQ tr) 70 ?_; intro b4 q4g W1 q4x q4b) | ((with_reducible refine gd 6 ?_); refine bx 6 (iCells ⟨o, a, b, c⟩) 33 ?_; intro b6 q6g W2 q6x q6b) | ((with_reducible refine gd 7 ?_); refine bx 7 (eCells ⟨0, ep, eo, eb, 0, 0⟩) 75 ?_; intro b7 q7g W3 q7x q7b) | ((with_reducible refine gd 8 ?_); refine bx 8 (zCells) 70 ?_; intro b8 q8g W4 q8x q8b) | ((with_reducible refine gd 9 ?_); refine bx 9 (zE) 75 ?_; intro b9 q9g W q9x q9b; have HK := am (show KS w W lo b4 b6 b7 b8 b9 P ⟨o, a, b, c⟩ nc g g (ls) vR vQ tr ⟨0, ep, eo, eb, 0, 0⟩ from ks_begin HWS.out HLO.out q4g q4x q4b q6g q6x q6b q7g q7x q7b q8g q8x q8b q9g q9x q9b); clear q4g q4x q4b q6g q6x q6b q7g q7x q7b q8g q8x q8b q9g q9x q9b W1 W2 W3 W4; have x9 := HK.out.vrc; have xr := HK.out.r2c HER.out; rw [HER.out] at x9; rw [HE2.out] at xr; have i1 := HK.out.i1; obtain ⟨e3, ef3⟩ := HK.out.e3; have i0 := HK.out.i0) | ((with_reducible refine gs 3 19 ?_); refine sv (W.setCell ⟨b7, 3, none⟩ (.int .i64 (a))) ?_; intro W hw; clear i1 e3 ef3 i0; replace HK := am (show KS w W lo b4 b6 b7 b8 b9 P ⟨o, a, b, c⟩ nc g g (ls) vR vQ tr ⟨0, ep, eo, (a), 0, 0⟩ by rw [hw]; exact KS.evs HK.out 3 (.int .i64 (a)) rfl); clear hw; have i0 := HK.out.i0; clear x9 xr) | ((with_reducible refine gd 22 ?_); refine wpList_load_row rfl 70 (.tmp 4) rfl b4 rfl 70 (sCells P g vR vQ tr) (0, 0) _ HK.out.x4 Try.underlying70 rfl size70 ?_) | ((with_reducible refine gd 24 ?_); refine wpList_load_row rfl 33 (.tmp 6) rfl b6 rfl 33 (iCells ⟨o, a, b, c⟩) (0, 0) _ HK.out.x6 Try.underlying33 rfl size33 ?_) | ((with_reducible refine gd 25 ?_); refine wpList_load_row rfl 75 (.tmp 7) rfl b7 rfl 75 (eCells ⟨0, ep, eo, (a), 0, 0⟩) (0, 0) _ HK.out.x7 Try.underlying75 rfl size75 ?_) | (go_at_call 63; refine (taken_any P g ls vR vQ nc n tr ⟨o, a, b, c⟩ ep eo a _ lo HK.out.ws (Nat.le_trans (Nat.le_trans HK.out.lo0 HK.out.l4) (Nat.le_of_lt (blk_lt HK.out.x4))) HOK.out H2.out H8.out HC.out HT.out HOP.out).mono ?_; rintro e W2 ⟨g', f', lsO, vR', vQ', ev', rfl, ht, hw, hs, hb, hk⟩; have HX8 := am (hk _ _ _ HK.out.x8 (by decide) (by decide)); have HX9 := am (hk _ _ _ HK.out.x9 (by decide) (by decide)); have HF := am (ret_fin (P := P) (tr := tr) hw hs (HK.out.be.trans hb) (HK.out.kp.trans hk) HX8.out HX9.out HK.out.n89 HK.out.l8 HK.out.l9 HK.out.lo0 ht); have HO8 := am (sOne (P := P) (vR := vR') (vQ := vQ') (f := f') tr (hw.rs hs) HC.out HT.out); clear ht hw hs hb hk) | ((with_reducible refine gs 70 8 ?_); refine store_row_event rfl 70 (.tmp 8) (.tmp 27) rfl b8 (sCells P f' vR' vQ' tr) rfl rfl 70 _ HX8.out size70 rfl HO8.out rfl ?_; intro W3 hw3; have HY9 := am (show W3.heap[b9]? = some (.cells zE 75 (0, 0)) by rw [hw3]; exact (setRow_other _ _ _ _ (Ne.symm HK.out.n89)).trans HX9.out); have HW3 := am hw3; clear hw3) | ((with_reducible refine gs 75 9 ?_); refine store_row_event rfl 75 (.tmp 9) (.tmp 28) rfl b9 (eCells ev') rfl rfl 75 _ HY9.out size75 rfl (eOne _) rfl ?_; intro W4 hw4; rw [HW3.out] at hw4; have HW4 := am hw4; clear hw4))
  obtain ⟨f1, f2, f3⟩ := HF.out
  rw [← HW4.out] at f1 f2 f3
  refine results3 rfl b8 b9 _ _ true f2 f3 ?hp ?hq ?hr ?hd f1
  case hp => rfl
  case hq => rfl
  case hr => rfl
  case hd => rfl
set_option maxRecDepth 100000 in
theorem sync_any (P : PV) (g : Nat → Value) (ls : Nat → List Int) (vR vQ : Value) (nc n : Nat) (tr : Int) (i : S33) (ep eo eb : Int) (w : World) (lo : Nat) (h : WF w lo g g ls vR vQ nc) (hlo : lo ≤ w.heap.size) (hok : okI n ls i) (h2 : (ls 2).length = 4) (h8 : (ls 8).length = nc) (hC : P.vC.oneCell' = true) (hT : P.vT.oneCell' = true) (hq : ∀ j, (ls j).length ≤ 1000000) (hop : i.f0 = 0 ∨ 12 ≤ i.f0) :
    Calls Try.prog 55 #[.agg (sCells P g vR vQ tr), .int .i64 0, .agg (iCells i), .agg (eCells ⟨0, ep, eo, eb, 0, 0⟩)] w (RetS w lo nc P (syncF ls tr i).1 (syncF ls tr i).2) := by
  obtain ⟨o, a, b, c⟩ := i
  have hop : o = 0 ∨ 12 ≤ o := hop
  have ho1 : o ≤ 27 := hok.o1
  have hgo : o ≠ 12 := hok.go
  by_cases c0 : o = 0
  · subst c0
    exact sync0 P g ls vR vQ nc n tr a b c ep eo eb w lo h hlo hok h2 h8 hC hT
  by_cases c25 : o = 25
  · subst c25
    exact sync25 P g ls vR vQ nc n tr a b c ep eo eb w lo h hlo hok h2 h8 hC hT
  by_cases c13 : o = 13
  · subst c13
    exact sync13 P g ls vR vQ nc n tr a b c ep eo eb w lo h hlo hok h2 h8 hC hT
  by_cases c15 : o = 15
  · subst c15
    exact sync15 P g ls vR vQ nc n tr a b c ep eo eb w lo h hlo hok h2 h8 hC hT
  by_cases c18 : o = 18
  · subst c18
    exact sync18 P g ls vR vQ nc n tr a b c ep eo eb w lo h hlo hok h2 h8 hC hT
  by_cases c23 : o = 23
  · subst c23
    exact sync23 P g ls vR vQ nc n tr a b c ep eo eb w lo h hlo hok h2 h8 hC hT
  by_cases c14 : o = 14
  · subst c14
    rw [show syncF ls tr ⟨14, a, b, c⟩ = (if rd (ls 6) a = -1 then (st ls 6 a 0, 0) else (ls, 1)) from rfl]
    by_cases hz : rd (ls 6) a = -1
    · rw [if_pos hz]
      exact sync14a P g ls vR vQ nc n tr a b c ep eo eb w lo h hlo hok h2 h8 hC hT hz
    · rw [if_neg hz]
      exact sync14b P g ls vR vQ nc n tr a b c ep eo eb w lo h hlo hok h2 h8 hC hT (bne_iff_ne.2 hz)
  by_cases c16 : o = 16
  · subst c16
    rw [show syncF ls tr ⟨16, a, b, c⟩ = (if rd (ls 6) a < 1 then (ls, 1) else (st ls 6 a (wrap64 (rd (ls 6) a - 1)), 0)) from rfl]
    by_cases hz : rd (ls 6) a < 1
    · rw [if_pos hz]
      exact sync16b P g ls vR vQ nc n tr a b c ep eo eb w lo h hlo hok h2 h8 hC hT (decide_eq_true hz)
    · rw [if_neg hz]
      exact sync16a P g ls vR vQ nc n tr a b c ep eo eb w lo h hlo hok h2 h8 hC hT (decide_eq_false hz)
  by_cases c24 : o = 24
  · subst c24
    rw [show syncF ls tr ⟨24, a, b, c⟩ = (if wrap64 (rd (ls 9) a + b) < 0 then (ls, 1) else (st ls 9 a (wrap64 (rd (ls 9) a + b)), 0)) from rfl]
    by_cases hz : wrap64 (rd (ls 9) a + b) < 0
    · rw [if_pos hz]
      exact sync24b P g ls vR vQ nc n tr a b c ep eo eb w lo h hlo hok h2 h8 hC hT (decide_eq_true hz)
    · rw [if_neg hz]
      exact sync24a P g ls vR vQ nc n tr a b c ep eo eb w lo h hlo hok h2 h8 hC hT (decide_eq_false hz)
  by_cases c27 : o = 27
  · subst c27
    rw [show syncF ls tr ⟨27, a, b, c⟩ = (if rd (ls 10) a = 1 then (st ls 10 a 2, 0) else (ls, 1)) from rfl]
    by_cases hz : rd (ls 10) a = 1
    · rw [if_pos hz]
      exact sync27a P g ls vR vQ nc n tr a b c ep eo eb w lo h hlo hok h2 h8 hC hT hz
    · rw [if_neg hz]
      exact sync27b P g ls vR vQ nc n tr a b c ep eo eb w lo h hlo hok h2 h8 hC hT (bne_iff_ne.2 hz)
  by_cases c20 : o = 20
  · subst c20
    rw [show syncF ls tr ⟨20, a, b, c⟩ = (if rd (ls 8) a = 0 then (up ls (12 + a.toNat) (ls (12 + a.toNat) ++ [rd (ls 2) b]), 0) else (ls, rd (ls 8) a)) from rfl]
    by_cases hz : rd (ls 8) a = 0
    · rw [if_pos hz]
      exact sync20a P g ls vR vQ nc n tr a b c ep eo eb w lo h hlo hok h2 h8 hC hT hz (hq _)
    · rw [if_neg hz]
      exact sync20b P g ls vR vQ nc n tr a b c ep eo eb w lo h hlo hok h2 h8 hC hT (beq_eq_false_iff_ne.2 hz)
  have hs : syncF ls tr ⟨o, a, b, c⟩ = (takenF ls ⟨o, a, b, c⟩, tr) := by
    unfold syncF
    simp only [c0, c25, c13, c14, c15, c16, c18, c24, c27, c20, c23, if_false]
  rw [hs]
  exact sync_def P g ls vR vQ nc n tr o a b c ep eo eb w lo h hlo hok h2 h8 hC hT (by omega)
theorem tailT40 : rtab .any (opsOf Try.f40 38) = (true, [([], []), ([], []), ([0, 0], [0]), ([1, 2, 0, 1, 2], [1]), ([3, 0, 1, 2, 3], [])]) := by kernel_rfl
theorem stepT4 : rtab .any (opsOf Try.f40 4) = (true, [([], []), ([0], [0]), ([1], [1]), ([], []), ([2, 3], [2, 3]), ([4], [4]), ([], []), ([6], [6]), ([], []), ([7, 8], [7, 8]), ([9], [9]), ([5, 10], [5, 10]), ([11], [11]), ([], []), ([13, 12, 0, 1, 2, 3, 4, 5, 6, 7, 8, 9, 10, 11, 12, 13], [12, 13])]) := by kernel_rfl
theorem stepT5 : rtab .any (opsOf Try.f40 5) = (true, [([], []), ([], []), ([1], [1]), ([], []), ([2, 3], [2, 3]), ([4], [4]), ([], []), ([6], [6]), ([0, 5, 7], [0, 5, 7]), ([], []), ([9, 8, 0, 1, 2, 3, 4, 5, 6, 7, 8, 9], [8, 9])]) := by kernel_rfl
theorem WS.lower {w : World} {lo lo' : Nat} {g : Nat → Value} {ls : Nat → List Int} {vR vQ : Value} {nc : Nat} (h : WS w lo g ls vR vQ nc) (hl : lo' ≤ lo) : WS w lo' g ls vR vQ nc := by
  obtain ⟨x, hr, e2⟩ := h.r
  obtain ⟨qs, hq, el, eq⟩ := h.q
  exact ⟨⟨fun j => Kd.R_lower (h.ms.row j) hl, h.ms.sep⟩, ⟨x, Kd.R_lower hr hl, e2⟩, ⟨qs, Kd.R_lower hq hl, el, eq⟩, h.ne⟩
theorem stepT31 : rtab .any (opsOf Try.f40 31) = (true, [([], []), ([0], [0]), ([], []), ([], []), ([3], [3]), ([2, 4], [2, 4]), ([5], [5]), ([6], [6]), ([1, 7], [1, 7]), ([0, 1, 2, 3, 4, 5, 6, 7, 8], []), ([9, 8, 8, 0, 1, 2, 3, 4, 5, 6, 7, 8], [8, 9])]) := by kernel_rfl
theorem len_st (L : Nat → List Int) (j : Nat) (x v : Int) (q : Nat) : (st L j x v q).length = (L q).length := by
  unfold st up
  split
  · next e => rw [e, List.length_set]
  · rfl
theorem len_at0 {ls : Nat → List Int} {v : Int} (h : ∀ j, (ls j).length ≤ 1000000) (j : Nat) : (st ls 0 0 v j).length ≤ 1000000 := by rw [len_st]; exact h j
theorem okI.congr {n : Nat} {ls L : Nat → List Int} {i : S33} (h : okI n ls i) (e : ∀ j, j < 12 → (L j).length = (ls j).length) : okI n L i := by
  obtain ⟨a1, a2, a3, a4, a5, a6, a7, a8, a9, a10, a11, a12, a13, a14, a15, a16, a17, a18⟩ := h
  refine ⟨a1, a2, a3, ?_, ?_, ?_, ?_, ?_, a9, a10, ?_, ?_, ?_, ?_, ?_, ?_, ?_, ?_⟩ <;> (simp only [e 2 (by decide), e 4 (by decide), e 5 (by decide), e 6 (by decide), e 8 (by decide), e 9 (by decide), e 10 (by decide)]; assumption)
theorem okI.at0 {n : Nat} {ls : Nat → List Int} {i : S33} {v : Int} (h : okI n ls i) (_h0 : (ls 0).length = 1) : okI n (st ls 0 0 v) i := h.congr (fun j _ => len_st ls 0 0 v j)
theorem iOne (i : S33) : (iCells i).all (·.oneCell') = true := by
  have hi : ∀ k n, (Value.int k n).oneCell' = true := fun _ _ => rfl
  simp [iCells, hi]
set_option maxHeartbeats 16000000 in
set_option maxRecDepth 100000 in
theorem step_any (P : PV) (g0 : Nat → Value) (ls : Nat → List Int) (vR0 vQ0 : Value) (nc : Nat) (tr : Int) (code : List S33) (pc : List Int) (w : World) (hP : PF w P code pc) (h : RS w g0 ls vR0 vQ0 nc) (hI : SI nc code pc ls) (hcan : canF code pc ls tr = true) (hl : ∀ j, (ls j).length ≤ 1000000) (hnc : nc ≤ 4) (hun : ∀ j, ls j ≠ [] → D9 j = true ∨ j = 2 ∨ (12 ≤ j ∧ j < 12 + nc)) :
    Calls Try.prog 40 #[.agg (sCells P g0 vR0 vQ0 tr), .int .i64 0] w (RetS w w.heap.size nc P (stepF ls tr (code.getD (atOf ls) z33)).1 (stepF ls tr (code.getD (atOf ls) z33)).2) := by
  have hC : P.vC.oneCell' = true := hP.c.one
  have hT : P.vT.oneCell' = true := by obtain ⟨_, _, _, _, e, _⟩ := hP.t; rw [e]; rfl
  have HP := am hP
  have HS := am h
  have HSI := am hI
  have HCAN := am hcan
  have HLL := am hl
  have HL : Aside0 (∀ j, (ls j).length < 17592186044416) := ⟨fun j => by have := hl j; omega⟩
  have HNC := am hnc
  have HUN := am hun
  have HC := am hC
  have HT := am hT
  clear hP h hI hcan hl hnc hun hC hT
  have hA2 : rd (ls 0) 0 < (code.length : Int) := by
    have := HCAN.out
    unfold canF atOf at this
    by_cases hn : code.length ≤ (rd (ls 0) 0).toNat
    · rw [if_pos hn] at this; cases this
    · have := HSI.out.at0; omega
  obtain ⟨i, hi⟩ : ∃ i, i = code.getD (atOf ls) z33 := ⟨_, rfl⟩
  have HOK : Aside0 (okI code.length ls i) := ⟨by rw [hi]; exact HSI.out.ok _ (by have := HSI.out.at0; unfold atOf; omega)⟩
  have hi2 : rd_T33 code (rd (ls 0) 0) = i := by rw [hi]; rfl
  obtain ⟨FT, hFT⟩ : ∃ FT, FT = stepF ls tr i := ⟨_, rfl⟩
  rw [← hi, ← hFT]
  have HFT := am hFT
  clear hFT
  have HI := am hi2
  clear hi hi2
  have H2 := am HSI.out.h2
  have H8 := am HSI.out.h8
  obtain ⟨aT, cT, Ac, cc, eT, _, hct, hcn, hCo⟩ := HP.out.t
  obtain ⟨ac, rfl, hi0, hi1, hi2, hi3⟩ := at_T33 hCo (rd (ls 0) 0) HSI.out.at0 hA2
  rw [HI.out] at hi0 hi1 hi2 hi3
  have HT6 := am eT
  have HCT := am hct
  have HI0 := am hi0
  have HI1 := am hi1
  have HI2 := am hi2
  have HI3 := am hi3
  have tA0 := eq_true HSI.out.at0
  have tA1 := eq_true hA2
  have HAL := am hA2
  clear eT hct hcn hCo hi0 hi1 hi2 hi3 hA2
  go_enter Try.func40, Try.ntmps40
  go_upto_region 4 with (first | ((with_reducible refine gd 2 ?_); refine bx 2 (sCells P g0 vR0 vQ0 tr) 70 ?_; intro b2 qg W qx qb; have HX := am qx; have HB := am qb; clear qg qx qb) | ((with_reducible refine gd 4 ?_); refine bx 4 (zCells) 70 ?_; intro b8 qg W qx qb; have HG8 := am (Nat.le_trans (below_size HB.out) (Nat.le_of_eq qg.symm)); have H8x := am qx; replace HX := am (blk_below HX.out qb); replace HB := am (below_step HB.out qb); clear qg qx qb) | ((with_reducible refine gd 5 ?_); refine bx 5 (zE) 75 ?_; intro b9 qg W qx qb; have HG9 := am (Nat.le_trans (below_size HB.out) (Nat.le_of_eq qg.symm)); have HN89 := am (Nat.ne_of_lt (Nat.lt_of_lt_of_le (blk_lt H8x.out) (Nat.le_of_eq qg.symm))); have H9x := am qx; replace HX := am (blk_below HX.out qb); replace H8x := am (blk_below H8x.out qb); replace HB := am (below_step HB.out qb); clear qg qx qb) | ((with_reducible refine gd 11 ?_); refine wpList_load_row rfl 70 (.tmp 2) rfl b2 rfl 70 (sCells P g0 vR0 vQ0 tr) (0, 0) _ HX.out Try.underlying70 rfl size70 ?_) | ((with_reducible refine gd 17 ?_); refine wpList_load_row rfl 70 (.tmp 2) rfl b2 rfl 70 (sCells P g0 vR0 vQ0 tr) (0, 0) _ HX.out Try.underlying70 rfl size70 ?_) | (go_at_call 52; refine (can_any P g0 ls vR0 vQ0 nc tr code pc _ (HP.out.below HB.out) (HS.out.below HB.out) HSI.out).mono ?_; rintro e W ⟨he, hb⟩; rw [HCAN.out] at he; subst he; replace HX := am (blk_below HX.out hb); replace H8x := am (blk_below H8x.out hb); replace H9x := am (blk_below H9x.out hb); replace HB := am (below_step HB.out hb); clear hb) | (go_at_call 53; refine (copy_any P g0 ls vR0 vQ0 nc tr _ (HS.out.below HB.out) HL.out HC.out HT.out HNC.out HUN.out).mono ?_; rintro e W ⟨g, vR, vQ, rfl, hws, hb⟩; replace HX := am (blk_below HX.out hb); replace H8x := am (blk_below H8x.out hb); replace H9x := am (blk_below H9x.out hb); have HWS := am (hws.lower (below_size HB.out)); replace HB := am (below_step HB.out hb); clear hb hws) | ((with_reducible refine gd 7 ?_); refine bx 7 (zCells) 70 ?_; intro b4 qg W qx qb; have HG4 := am (Nat.le_trans (below_size HB.out) (Nat.le_of_eq qg.symm)); have HN48 := am (Nat.ne_of_gt (Nat.lt_of_lt_of_le (blk_lt H8x.out) (Nat.le_of_eq qg.symm))); replace H8x := am (blk_below H8x.out qb); replace H9x := am (blk_below H9x.out qb); have H4z := am qx; replace HWS := am (HWS.out.wf.below qb); replace HB := am (below_step HB.out qb); clear qg qx qb) | ((with_reducible refine gs 70 7 ?_); refine store_row_event rfl 70 (.tmp 7) (.tmp 18) rfl b4 (sCells P g vR vQ tr) rfl rfl 70 _ H4z.out size70 rfl (sOne tr (HWS.out.rs (Seen.refl _ _)) HC.out HT.out) rfl ?_; intro W hw; replace H8x := am (show W.heap[b8]? = some (.cells zCells 70 (0, 0)) by rw [hw]; exact (setRow_other _ _ _ _ (Ne.symm HN48.out)).trans H8x.out); replace H9x := am (show W.heap[b9]? = some (.cells zE 75 (0, 0)) by rw [hw]; exact (setRow_other _ _ _ _ (blk_ne H9x.out H4z.out (by decide))).trans H9x.out); have H4x := am (show Box W b4 P g vR vQ tr by rw [hw]; exact setRow_heap _ _ _ _ _ _ H4z.out); replace HWS := am (show WF W w.heap.size g g ls vR vQ nc by rw [hw]; exact HWS.out.farRow H4z.out (by decide) (by decide) _); replace HB := am (show Below w.heap.size w W by rw [hw]; exact below_rowS HB.out HG4.out); clear hw H4z HX))
  obtain ⟨k0, c0, e0, r0, _⟩ := HWS.out.at 0 0 (Int.le_refl _) (by rw [HSI.out.h0]; decide)
  rw [HSI.out.h0] at e0
  have HE0 := am e0
  have HR0 := am (show W.cell? ⟨k0, 0, none⟩ = some (.int .i64 (rd (ls 0) 0)) from r0)
  clear e0 r0
  refine sa 15 (fun w' => Below W.heap.size W w') stepT4 (below_drew (Below.refl _ _)) [14] (fun HT_ hHeld => ?_)
  refine pu 0 19 HT_ ?_
  refine pu 1 20 HT_ ?_
  refine ta 2 21 HT_ hHeld (v := ?_) ?_ ?_; rotate_left
  · intro w' hS'; have y_ := Box.at6 (blk_below H4x.out hS'); rw [HT6.out] at y_; go_simp; with_reducible rfl
  refine pu 3 22 HT_ ?_
  refine pu 4 23 HT_ ?_
  refine ta 5 24 HT_ hHeld (v := ?_) ?_ ?_; rotate_left
  · intro w' hS'; have y_ := pw_cell_below (below_step HB.out hS') HCT.out; go_simp; with_reducible rfl
  refine pu 6 25 HT_ ?_
  refine ta 7 26 HT_ hHeld (v := ?_) ?_ ?_; rotate_left
  · intro w' hS'; have y_ := Box.at7 (blk_below H4x.out hS'); rw [HE0.out] at y_; go_simp; with_reducible rfl
  refine pu 8 27 HT_ ?_
  refine pu 9 28 HT_ ?_
  refine ta 10 29 HT_ hHeld (v := ?_) ?_ ?_; rotate_left
  · intro w' hS'; have y_ := pw_cell_below hS' HR0.out; go_simp; with_reducible rfl
  refine pu 11 30 HT_ ?_
  refine ta 12 31 HT_ hHeld (v := ?_) ?_ ?_; rotate_left
  · intro w' hS'; have y0 := pw_cell_below (below_step HB.out hS') HI0.out; have y1 := pw_cell_below (below_step HB.out hS') HI1.out; have y2 := pw_cell_below (below_step HB.out hS') HI2.out; have y3 := pw_cell_below (below_step HB.out hS') HI3.out; go_simp; with_reducible rfl
  refine on 13 (some 8) HT_ (fun K hK => ?_)
  refine box_step (by rfl) (N := 8) rfl (cs := #[.int .u8 0, .int .i64 0, .int .i64 0, .int .i64 0]) (t := 33) ?hr ?_
  case hr => go_simp; try rfl
  intro b6 hg W6 hbox hb
  have hb6 := below_step hHeld hb
  have H6z := am hbox
  have HG6 := am (Nat.le_trans (below_size (below_step HB.out hHeld)) (Nat.le_of_eq hg.symm))
  have HGW := am (show W.heap.size ≤ b6 from Nat.le_trans (below_size hHeld) (Nat.le_of_eq hg.symm))
  have HB6 := am hb6
  clear hg hbox hb
  refine hK.out _ _ (HB6.out) (fun hHeld => ?_)
  clear hK K
  refine nm 8 ?_
  refine la 14 (none) HT_ (fun K hK => ?_)
  refine skip_ (w1 := W6.setRow b6 (iCells i)) (by rfl) rfl (exec_store_row 33 (.tmp 8) (.tmp 31) rfl b6 (iCells i) rfl rfl 33 _ H6z.out size33 rfl (iOne _)) ?_
  obtain ⟨W7, hw7⟩ : ∃ W7, W7 = W6.setRow b6 (iCells i) := ⟨_, rfl⟩
  rw [← hw7]
  have HW7 := am hw7
  clear hw7
  refine hK.out _ _ ?_
  clear hK K
  refine dn HT_ ?_
  clear hb6 hHeld
  have moved : Aside0 (∀ (k : Nat) (cs : Array Value) (t : TypeId), W.heap[k]? = some (.cells cs t (0, 0)) → W7.heap[k]? = some (.cells cs t (0, 0))) := ⟨fun k cs t hk => by
    rw [HW7.out]
    exact (setRow_other _ _ _ _ (by have := blk_lt hk; have := HGW.out; omega)).trans (blk_below hk HB6.out)⟩
  have H6x := am (show W7.heap[b6]? = some (.cells (iCells i) 33 (0, 0)) by rw [HW7.out]; exact setRow_heap _ _ _ _ _ _ H6z.out)
  replace HWS := am (show WF W7 w.heap.size g g ls vR vQ nc by rw [HW7.out]; exact (HWS.out.below HB6.out).farRow H6z.out (by decide) (by decide) _)
  replace HB := am (show Below w.heap.size w W7 by rw [HW7.out]; exact below_rowS (below_step HB.out HB6.out) HG6.out)
  replace H4x := am (show Box W7 b4 P g vR vQ tr from moved.out _ _ _ H4x.out)
  replace H8x := am (moved.out _ _ _ H8x.out)
  replace H9x := am (moved.out _ _ _ H9x.out)
  have HR0 : Aside0 (W7.cell? ⟨k0, 0, none⟩ = some (.int .i64 (rd (ls 0) 0))) := ⟨by
    obtain ⟨k0', c0', e0', r0', _⟩ := HWS.out.at 0 0 (Int.le_refl _) (by rw [HSI.out.h0]; decide)
    rw [HE0.out] at e0'
    injection e0' with e3
    injection e3 with e3
    injection e3 with e3
    subst e3
    exact r0'⟩
  clear moved HW7 H6z HGW HB6 W6
  generalize W7 = W at *
  go_wp2
  refine sa 11 (fun w' => Below W.heap.size W w') stepT5 (below_drew (Below.refl _ _)) [10] (fun HT_ hHeld => ?_)
  refine pu 0 32 HT_ ?_
  refine pu 1 33 HT_ ?_
  refine ta 2 34 HT_ hHeld (v := ?_) ?_ ?_; rotate_left
  · intro w' hS'; have y_ := Box.at7 (blk_below H4x.out hS'); rw [HE0.out] at y_; go_simp; with_reducible rfl
  refine pu 3 35 HT_ ?_
  refine pu 4 36 HT_ ?_
  refine ta 5 37 HT_ hHeld (v := ?_) ?_ ?_; rotate_left
  · intro w' hS'; have y_ := pw_cell_below hS' HR0.out; go_simp; with_reducible rfl
  refine pu 6 38 HT_ ?_
  refine ta 7 39 HT_ hHeld (v := ?_) ?_ ?_; rotate_left
  · intro w' hS'; have y_ : w'.cell? ⟨b6, 0, none⟩ = some (.int .u8 i.f0) := blk_cell (blk_below H6x.out hS') 0; go_simp; with_reducible rfl
  refine pu 8 40 HT_ ?_
  refine on 9 (some 9) HT_ (fun K hK => ?_)
  refine box_step (by rfl) (N := 9) rfl (cs := zE) (t := 75) ?hr ?_
  case hr => go_simp; try rfl
  intro b7 hg W6 hbox hb
  have hb6 := below_step hHeld hb
  have H7z := am hbox
  have HG7 := am (Nat.le_trans (below_size (below_step HB.out hHeld)) (Nat.le_of_eq hg.symm))
  have HGW := am (show W.heap.size ≤ b7 from Nat.le_trans (below_size hHeld) (Nat.le_of_eq hg.symm))
  have HB6 := am hb6
  clear hg hbox hb
  refine hK.out _ _ (HB6.out) (fun hHeld => ?_)
  clear hK K
  refine nm 9 ?_
  refine la 10 (none) HT_ (fun K hK => ?_)
  refine skip_ (w1 := W6.setRow b7 (eCells ⟨0, rd (ls 0) 0, i.f0, 0, 0, 0⟩)) (by rfl) rfl (exec_store_row 75 (.tmp 9) (.tmp 40) rfl b7 (eCells ⟨0, rd (ls 0) 0, i.f0, 0, 0, 0⟩) rfl rfl 75 _ H7z.out size75 rfl (eOne _)) ?_
  obtain ⟨W7, hw7⟩ : ∃ W7, W7 = W6.setRow b7 (eCells ⟨0, rd (ls 0) 0, i.f0, 0, 0, 0⟩) := ⟨_, rfl⟩
  rw [← hw7]
  have HW7 := am hw7
  clear hw7
  refine hK.out _ _ ?_
  clear hK K
  refine dn HT_ ?_
  clear hb6 hHeld
  have moved : Aside0 (∀ (k : Nat) (cs : Array Value) (t : TypeId), W.heap[k]? = some (.cells cs t (0, 0)) → W7.heap[k]? = some (.cells cs t (0, 0))) := ⟨fun k cs t hk => by
    rw [HW7.out]
    exact (setRow_other _ _ _ _ (by have := blk_lt hk; have := HGW.out; omega)).trans (blk_below hk HB6.out)⟩
  have HK : Aside0 (KS w W7 w.heap.size b4 b6 b7 b8 b9 P i nc g g ls vR vQ tr ⟨0, rd (ls 0) 0, i.f0, 0, 0, 0⟩) := ⟨⟨by rw [HW7.out]; exact (HWS.out.below HB6.out).farRow H7z.out (by decide) (by decide) _, moved.out _ _ _ H4x.out, moved.out _ _ _ H6x.out, by rw [HW7.out]; exact setRow_heap _ _ _ _ _ _ H7z.out, moved.out _ _ _ H8x.out, moved.out _ _ _ H9x.out, by rw [HW7.out]; exact below_rowS (below_step HB.out HB6.out) HG7.out, HN48.out, Nat.ne_of_gt (Nat.lt_of_lt_of_le (blk_lt H9x.out) HGW.out), HN89.out, HG4.out, HG7.out, HG8.out, HG9.out, Nat.le_refl _, fun k cs t h1 _ _ => blk_below h1 (by rw [HW7.out]; exact below_rowS (below_step HB.out HB6.out) HG7.out)⟩⟩
  clear moved HW7 H7z HGW HB6 W6 HR0 HWS HB H4x H6x H8x H9x HG4 HG6 HG7 HG8 HG9 HN48 HN89 HCT HI0 HI1 HI2 HI3
  generalize W7 = W at HK ⊢
  obtain ⟨rR, cR, eR⟩ : ∃ k c, vR = .slice (some ⟨k, 0, none⟩) 1 c := by
    obtain ⟨x, hr, _⟩ := HK.out.ws.r
    obtain ⟨k, c, e, _⟩ := outer_at hr 0 (Int.le_refl _) (by simp)
    exact ⟨k, c, e⟩
  obtain ⟨k2, c2, e2, _⟩ := HK.out.ws.at 2 0 (Int.le_refl _) (by rw [H2.out]; decide)
  rw [H2.out] at e2
  have HER := am eR
  have HE2 := am e2
  clear e2 eR
  have s7 := Box.at7 HK.out.x4
  rw [HE0.out] at s7
  have r00 : W.cell? ⟨k0, 0, none⟩ = some (.int .i64 (rd (ls 0) 0)) := (HK.out.rc 0 HE0.out 0 (Int.le_refl _) (by decide)).1
  have rf00 : W.frozen? ⟨k0, 0, none⟩ = false := (HK.out.rc 0 HE0.out 0 (Int.le_refl _) (by decide)).2
  go_upto_region 8 with (((with_reducible refine gs 3 47 ?_); refine sv (W.setCell ⟨k0, (0 : Int).toNat, none⟩ (.int .i64 (wrap64 (rd (ls 0) 0 + 1)))) ?_; intro W hw; replace HK := am (show KS w W w.heap.size b4 b6 b7 b8 b9 P i nc g g (st (ls) 0 0 (wrap64 (rd (ls 0) 0 + 1))) vR vQ tr ⟨0, rd (ls 0) 0, i.f0, 0, 0, 0⟩ by rw [hw]; exact KS.put HK.out 0 HE0.out 0 (wrap64 (rd (ls 0) 0 + 1))); clear hw; clear s7 r00 rf00; have x9 := HK.out.vrc; have xr := HK.out.r2c HER.out; rw [HER.out] at x9; rw [HE2.out] at xr))
  clear HT_ HCAN HI tA0 tA1 HAL
  obtain ⟨o, a, b, c⟩ := i
  by_cases c1 : o = 1
  · as_aux_lemma =>
      subst c1
      have HFE : Aside0 (FT = (st (st ls 0 0 (wrap64 (rd (ls 0) 0 + 1))) 2 a b, tr)) := ⟨by rw [HFT.out]; rfl⟩
      obtain ⟨q0, q1⟩ := HOK.out.a2 (by simp)
      rw [H2.out] at q1
      replace q0 : 0 ≤ a := q0
      replace q1 : a < (4 : Int) := q1
      have HPa2 : Aside0 (0 ≤ a ∧ a < ((4 : Nat) : Int)) := ⟨⟨q0, q1⟩⟩
      have ta0 := eq_true q0
      have ta21 := eq_true q1
      clear q0 q1
      have i0 := HK.out.i0
      have i1 := HK.out.i1
      have i2 := HK.out.i2
      have r2a : W.cell? ⟨k2, a.toNat, none⟩ = some (.int .i64 (rd (ls 2) a)) := (HK.out.rc 2 HE2.out a HPa2.out.1 HPa2.out.2).1
      have rf2a : W.frozen? ⟨k2, a.toNat, none⟩ = false := (HK.out.rc 2 HE2.out a HPa2.out.1 HPa2.out.2).2
      clear x9 xr
      go_wp2_with (first | ((with_reducible refine gs 3 70 ?_); refine sv (W.setCell ⟨k2, (a : Int).toNat, none⟩ (.int .i64 (b))) ?_; intro W hw; clear i0 i1 i2 r2a rf2a; replace HK := am (show KS w W w.heap.size b4 b6 b7 b8 b9 P ⟨1, a, b, c⟩ nc g g (st (st ls 0 0 (wrap64 (rd (ls 0) 0 + 1))) 2 a (b)) vR vQ tr ⟨0, rd (ls 0) 0, 1, 0, 0, 0⟩ by rw [hw]; exact KS.put HK.out 2 HE2.out a (b)); clear hw))
      have HONE : Aside0 ((sCells P g vR vQ tr).all (·.oneCell') = true) := ⟨by rw [← show sCells P g vR vQ tr = sCells P g vR vQ tr from rfl]; exact sOne _ (HK.out.ws.rs (Seen.refl g _)) HC.out HT.out⟩
      replace HK := am HK.out.drew
      refine sa 5 (fun w' => w'.heap[b4]? = some (.cells (sCells P g vR vQ tr) 70 (0, 0)) ∧ w'.heap[b7]? = some (.cells (eCells ⟨0, rd (ls 0) 0, 1, 0, 0, 0⟩) 75 (0, 0))) tailT40 (⟨HK.out.x4, HK.out.x7⟩) [3] (fun HT_ hHeld => ?_)
      generalize W.drew = W at hHeld HK ⊢
      refine ta 0 233 HT_ hHeld (v := (.agg (sCells P g vR vQ tr))) ?_ ?_
      · exact fun w' hS' => exec_load_row 70 (.tmp 7) rfl b4 rfl 70 (sCells P g vR vQ tr) (0, 0) _ hS'.1 Try.underlying70 rfl size70
      refine ta 1 234 HT_ hHeld (v := (.agg (eCells ⟨0, rd (ls 0) 0, 1, 0, 0, 0⟩))) ?_ ?_
      · exact fun w' hS' => exec_load_row 75 (.tmp 9) rfl b7 rfl 75 (eCells ⟨0, rd (ls 0) 0, 1, 0, 0, 0⟩) (0, 0) _ hS'.2 Try.underlying75 rfl size75
      refine on 2 (none) HT_ (fun K hK => ?_)
      refine skip_ (w1 := W.setRow b8 (sCells P g vR vQ tr)) (by rfl) rfl (exec_store_row 70 (.tmp 4) (.tmp 233) rfl b8 (sCells P g vR vQ tr) rfl rfl 70 _ HK.out.x8 size70 rfl HONE.out) ?_
      refine hK.out _ _ (⟨(setRow_other _ _ _ _ HK.out.n48).trans hHeld.1, (setRow_other _ _ _ _ (blk_ne HK.out.x7 HK.out.x8 (by decide))).trans hHeld.2⟩) (fun hHeld => ?_)
      clear hK K
      refine la 3 (none) HT_ (fun K hK => ?_)
      refine skip_ (w1 := (W.setRow b8 (sCells P g vR vQ tr)).setRow b9 (eCells ⟨0, rd (ls 0) 0, 1, 0, 0, 0⟩)) (by rfl) rfl (exec_store_row 75 (.tmp 5) (.tmp 234) rfl b9 (eCells ⟨0, rd (ls 0) 0, 1, 0, 0, 0⟩) rfl rfl 75 _ ((setRow_other _ _ _ _ (Ne.symm HK.out.n89)).trans HK.out.x9) size75 rfl (eOne _)) ?_
      refine hK.out _ _ ?_
      clear hK K
      refine pu 4 6 HT_ ?_
      refine dn HT_ ?_
      go_wp2
      obtain ⟨f1, f2, f3⟩ := KS.fin HK.out rfl (Seen.refl g _) rfl
      refine results3 rfl b8 b9 _ _ true f2 f3 ?hp ?hq ?hr ?hd (by rw [HFE.out]; exact f1)
      case hp => rfl
      case hq => rfl
      case hr => rfl
      case hd => rfl
  by_cases c2 : o = 2
  · as_aux_lemma =>
      subst c2
      have HFE : Aside0 (FT = (st (st ls 0 0 (wrap64 (rd (ls 0) 0 + 1))) 2 a (rd (ls 2) b), tr)) := ⟨by rw [HFT.out]; rfl⟩
      obtain ⟨q0, q1⟩ := HOK.out.a2 (by simp)
      rw [H2.out] at q1
      replace q0 : 0 ≤ a := q0
      replace q1 : a < (4 : Int) := q1
      have HPa2 : Aside0 (0 ≤ a ∧ a < ((4 : Nat) : Int)) := ⟨⟨q0, q1⟩⟩
      have ta0 := eq_true q0
      have ta21 := eq_true q1
      clear q0 q1
      obtain ⟨q0, q1⟩ := HOK.out.b2 (by simp)
      rw [H2.out] at q1
      replace q0 : 0 ≤ b := q0
      replace q1 : b < (4 : Int) := q1
      have HPb2 : Aside0 (0 ≤ b ∧ b < ((4 : Nat) : Int)) := ⟨⟨q0, q1⟩⟩
      have tb0 := eq_true q0
      have tb21 := eq_true q1
      clear q0 q1
      have i0 := HK.out.i0
      have i1 := HK.out.i1
      have i2 := HK.out.i2
      have r2b : W.cell? ⟨k2, b.toNat, none⟩ = some (.int .i64 (rd (ls 2) b)) := (HK.out.rc 2 HE2.out b HPb2.out.1 HPb2.out.2).1
      have rf2b : W.frozen? ⟨k2, b.toNat, none⟩ = false := (HK.out.rc 2 HE2.out b HPb2.out.1 HPb2.out.2).2
      clear x9 xr
      go_wp2
      go_still_tail 9, (by kernel_rfl)
      change wpList _ _ _ _ _ W.drew
      replace HK := am HK.out.drew
      generalize W.drew = W at HK ⊢
      try simp only [i64_w]
      clear i0 i1 i2 r2b rf2b
      have r2a : W.cell? ⟨k2, a.toNat, none⟩ = some (.int .i64 (rd (ls 2) a)) := (HK.out.rc 2 HE2.out a HPa2.out.1 HPa2.out.2).1
      have rf2a : W.frozen? ⟨k2, a.toNat, none⟩ = false := (HK.out.rc 2 HE2.out a HPa2.out.1 HPa2.out.2).2
      go_wp2_with (first | ((with_reducible refine gs 3 81 ?_); refine sv (W.setCell ⟨k2, (a : Int).toNat, none⟩ (.int .i64 (rd (ls 2) b))) ?_; intro W hw; clear r2a rf2a; replace HK := am (show KS w W w.heap.size b4 b6 b7 b8 b9 P ⟨2, a, b, c⟩ nc g g (st (st ls 0 0 (wrap64 (rd (ls 0) 0 + 1))) 2 a (rd (ls 2) b)) vR vQ tr ⟨0, rd (ls 0) 0, 2, 0, 0, 0⟩ by rw [hw]; exact KS.put HK.out 2 HE2.out a (rd (ls 2) b)); clear hw))
      have HONE : Aside0 ((sCells P g vR vQ tr).all (·.oneCell') = true) := ⟨by rw [← show sCells P g vR vQ tr = sCells P g vR vQ tr from rfl]; exact sOne _ (HK.out.ws.rs (Seen.refl g _)) HC.out HT.out⟩
      replace HK := am HK.out.drew
      refine sa 5 (fun w' => w'.heap[b4]? = some (.cells (sCells P g vR vQ tr) 70 (0, 0)) ∧ w'.heap[b7]? = some (.cells (eCells ⟨0, rd (ls 0) 0, 2, 0, 0, 0⟩) 75 (0, 0))) tailT40 (⟨HK.out.x4, HK.out.x7⟩) [3] (fun HT_ hHeld => ?_)
      generalize W.drew = W at hHeld HK ⊢
      refine ta 0 233 HT_ hHeld (v := (.agg (sCells P g vR vQ tr))) ?_ ?_
      · exact fun w' hS' => exec_load_row 70 (.tmp 7) rfl b4 rfl 70 (sCells P g vR vQ tr) (0, 0) _ hS'.1 Try.underlying70 rfl size70
      refine ta 1 234 HT_ hHeld (v := (.agg (eCells ⟨0, rd (ls 0) 0, 2, 0, 0, 0⟩))) ?_ ?_
      · exact fun w' hS' => exec_load_row 75 (.tmp 9) rfl b7 rfl 75 (eCells ⟨0, rd (ls 0) 0, 2, 0, 0, 0⟩) (0, 0) _ hS'.2 Try.underlying75 rfl size75
      refine on 2 (none) HT_ (fun K hK => ?_)
      refine skip_ (w1 := W.setRow b8 (sCells P g vR vQ tr)) (by rfl) rfl (exec_store_row 70 (.tmp 4) (.tmp 233) rfl b8 (sCells P g vR vQ tr) rfl rfl 70 _ HK.out.x8 size70 rfl HONE.out) ?_
      refine hK.out _ _ (⟨(setRow_other _ _ _ _ HK.out.n48).trans hHeld.1, (setRow_other _ _ _ _ (blk_ne HK.out.x7 HK.out.x8 (by decide))).trans hHeld.2⟩) (fun hHeld => ?_)
      clear hK K
      refine la 3 (none) HT_ (fun K hK => ?_)
      refine skip_ (w1 := (W.setRow b8 (sCells P g vR vQ tr)).setRow b9 (eCells ⟨0, rd (ls 0) 0, 2, 0, 0, 0⟩)) (by rfl) rfl (exec_store_row 75 (.tmp 5) (.tmp 234) rfl b9 (eCells ⟨0, rd (ls 0) 0, 2, 0, 0, 0⟩) rfl rfl 75 _ ((setRow_other _ _ _ _ (Ne.symm HK.out.n89)).trans HK.out.x9) size75 rfl (eOne _)) ?_
      refine hK.out _ _ ?_
      clear hK K
      refine pu 4 6 HT_ ?_
      refine dn HT_ ?_
      go_wp2
      obtain ⟨f1, f2, f3⟩ := KS.fin HK.out rfl (Seen.refl g _) rfl
      refine results3 rfl b8 b9 _ _ true f2 f3 ?hp ?hq ?hr ?hd (by rw [HFE.out]; exact f1)
      case hp => rfl
      case hq => rfl
      case hr => rfl
      case hd => rfl
  by_cases c3 : o = 3
  · as_aux_lemma =>
      subst c3
      have HFE : Aside0 (FT = (st (st ls 0 0 (wrap64 (rd (ls 0) 0 + 1))) 2 a (wrap64 (rd (ls 2) b + rd (ls 2) c)), tr)) := ⟨by rw [HFT.out]; rfl⟩
      obtain ⟨q0, q1⟩ := HOK.out.a2 (by simp)
      rw [H2.out] at q1
      replace q0 : 0 ≤ a := q0
      replace q1 : a < (4 : Int) := q1
      have HPa2 : Aside0 (0 ≤ a ∧ a < ((4 : Nat) : Int)) := ⟨⟨q0, q1⟩⟩
      have ta0 := eq_true q0
      have ta21 := eq_true q1
      clear q0 q1
      obtain ⟨q0, q1⟩ := HOK.out.b2 (by simp)
      rw [H2.out] at q1
      replace q0 : 0 ≤ b := q0
      replace q1 : b < (4 : Int) := q1
      have HPb2 : Aside0 (0 ≤ b ∧ b < ((4 : Nat) : Int)) := ⟨⟨q0, q1⟩⟩
      have tb0 := eq_true q0
      have tb21 := eq_true q1
      clear q0 q1
      obtain ⟨q0, q1⟩ := HOK.out.c2 (by simp)
      rw [H2.out] at q1
      replace q0 : 0 ≤ c := q0
      replace q1 : c < (4 : Int) := q1
      have HPc2 : Aside0 (0 ≤ c ∧ c < ((4 : Nat) : Int)) := ⟨⟨q0, q1⟩⟩
      have tc0 := eq_true q0
      have tc21 := eq_true q1
      clear q0 q1
      have i0 := HK.out.i0
      have i1 := HK.out.i1
      have i2 := HK.out.i2
      have i3 := HK.out.i3
      have r2b : W.cell? ⟨k2, b.toNat, none⟩ = some (.int .i64 (rd (ls 2) b)) := (HK.out.rc 2 HE2.out b HPb2.out.1 HPb2.out.2).1
      have rf2b : W.frozen? ⟨k2, b.toNat, none⟩ = false := (HK.out.rc 2 HE2.out b HPb2.out.1 HPb2.out.2).2
      have r2c : W.cell? ⟨k2, c.toNat, none⟩ = some (.int .i64 (rd (ls 2) c)) := (HK.out.rc 2 HE2.out c HPc2.out.1 HPc2.out.2).1
      have rf2c : W.frozen? ⟨k2, c.toNat, none⟩ = false := (HK.out.rc 2 HE2.out c HPc2.out.1 HPc2.out.2).2
      clear x9 xr
      go_wp2
      go_still_tail 15, (by kernel_rfl)
      change wpList _ _ _ _ _ W.drew
      replace HK := am HK.out.drew
      generalize W.drew = W at HK ⊢
      try simp only [i64_w]
      clear i0 i1 i2 i3 r2b rf2b r2c rf2c
      have r2a : W.cell? ⟨k2, a.toNat, none⟩ = some (.int .i64 (rd (ls 2) a)) := (HK.out.rc 2 HE2.out a HPa2.out.1 HPa2.out.2).1
      have rf2a : W.frozen? ⟨k2, a.toNat, none⟩ = false := (HK.out.rc 2 HE2.out a HPa2.out.1 HPa2.out.2).2
      go_wp2_with (first | ((with_reducible refine gs 3 98 ?_); refine sv (W.setCell ⟨k2, (a : Int).toNat, none⟩ (.int .i64 (wrap64 (rd (ls 2) b + rd (ls 2) c)))) ?_; intro W hw; clear r2a rf2a; replace HK := am (show KS w W w.heap.size b4 b6 b7 b8 b9 P ⟨3, a, b, c⟩ nc g g (st (st ls 0 0 (wrap64 (rd (ls 0) 0 + 1))) 2 a (wrap64 (rd (ls 2) b + rd (ls 2) c))) vR vQ tr ⟨0, rd (ls 0) 0, 3, 0, 0, 0⟩ by rw [hw]; exact KS.put HK.out 2 HE2.out a (wrap64 (rd (ls 2) b + rd (ls 2) c))); clear hw))
      have HONE : Aside0 ((sCells P g vR vQ tr).all (·.oneCell') = true) := ⟨by rw [← show sCells P g vR vQ tr = sCells P g vR vQ tr from rfl]; exact sOne _ (HK.out.ws.rs (Seen.refl g _)) HC.out HT.out⟩
      replace HK := am HK.out.drew
      refine sa 5 (fun w' => w'.heap[b4]? = some (.cells (sCells P g vR vQ tr) 70 (0, 0)) ∧ w'.heap[b7]? = some (.cells (eCells ⟨0, rd (ls 0) 0, 3, 0, 0, 0⟩) 75 (0, 0))) tailT40 (⟨HK.out.x4, HK.out.x7⟩) [3] (fun HT_ hHeld => ?_)
      generalize W.drew = W at hHeld HK ⊢
      refine ta 0 233 HT_ hHeld (v := (.agg (sCells P g vR vQ tr))) ?_ ?_
      · exact fun w' hS' => exec_load_row 70 (.tmp 7) rfl b4 rfl 70 (sCells P g vR vQ tr) (0, 0) _ hS'.1 Try.underlying70 rfl size70
      refine ta 1 234 HT_ hHeld (v := (.agg (eCells ⟨0, rd (ls 0) 0, 3, 0, 0, 0⟩))) ?_ ?_
      · exact fun w' hS' => exec_load_row 75 (.tmp 9) rfl b7 rfl 75 (eCells ⟨0, rd (ls 0) 0, 3, 0, 0, 0⟩) (0, 0) _ hS'.2 Try.underlying75 rfl size75
      refine on 2 (none) HT_ (fun K hK => ?_)
      refine skip_ (w1 := W.setRow b8 (sCells P g vR vQ tr)) (by rfl) rfl (exec_store_row 70 (.tmp 4) (.tmp 233) rfl b8 (sCells P g vR vQ tr) rfl rfl 70 _ HK.out.x8 size70 rfl HONE.out) ?_
      refine hK.out _ _ (⟨(setRow_other _ _ _ _ HK.out.n48).trans hHeld.1, (setRow_other _ _ _ _ (blk_ne HK.out.x7 HK.out.x8 (by decide))).trans hHeld.2⟩) (fun hHeld => ?_)
      clear hK K
      refine la 3 (none) HT_ (fun K hK => ?_)
      refine skip_ (w1 := (W.setRow b8 (sCells P g vR vQ tr)).setRow b9 (eCells ⟨0, rd (ls 0) 0, 3, 0, 0, 0⟩)) (by rfl) rfl (exec_store_row 75 (.tmp 5) (.tmp 234) rfl b9 (eCells ⟨0, rd (ls 0) 0, 3, 0, 0, 0⟩) rfl rfl 75 _ ((setRow_other _ _ _ _ (Ne.symm HK.out.n89)).trans HK.out.x9) size75 rfl (eOne _)) ?_
      refine hK.out _ _ ?_
      clear hK K
      refine pu 4 6 HT_ ?_
      refine dn HT_ ?_
      go_wp2
      obtain ⟨f1, f2, f3⟩ := KS.fin HK.out rfl (Seen.refl g _) rfl
      refine results3 rfl b8 b9 _ _ true f2 f3 ?hp ?hq ?hr ?hd (by rw [HFE.out]; exact f1)
      case hp => rfl
      case hq => rfl
      case hr => rfl
      case hd => rfl
  by_cases c4 : o = 4
  · as_aux_lemma =>
      subst c4
      have HFE : Aside0 (FT = (st (st ls 0 0 (wrap64 (rd (ls 0) 0 + 1))) 2 a (wrap64 (rd (ls 2) b - rd (ls 2) c)), tr)) := ⟨by rw [HFT.out]; rfl⟩
      obtain ⟨q0, q1⟩ := HOK.out.a2 (by simp)
      rw [H2.out] at q1
      replace q0 : 0 ≤ a := q0
      replace q1 : a < (4 : Int) := q1
      have HPa2 : Aside0 (0 ≤ a ∧ a < ((4 : Nat) : Int)) := ⟨⟨q0, q1⟩⟩
      have ta0 := eq_true q0
      have ta21 := eq_true q1
      clear q0 q1
      obtain ⟨q0, q1⟩ := HOK.out.b2 (by simp)
      rw [H2.out] at q1
      replace q0 : 0 ≤ b := q0
      replace q1 : b < (4 : Int) := q1
      have HPb2 : Aside0 (0 ≤ b ∧ b < ((4 : Nat) : Int)) := ⟨⟨q0, q1⟩⟩
      have tb0 := eq_true q0
      have tb21 := eq_true q1
      clear q0 q1
      obtain ⟨q0, q1⟩ := HOK.out.c2 (by simp)
      rw [H2.out] at q1
      replace q0 : 0 ≤ c := q0
      replace q1 : c < (4 : Int) := q1
      have HPc2 : Aside0 (0 ≤ c ∧ c < ((4 : Nat) : Int)) := ⟨⟨q0, q1⟩⟩
      have tc0 := eq_true q0
      have tc21 := eq_true q1
      clear q0 q1
      have i0 := HK.out.i0
      have i1 := HK.out.i1
      have i2 := HK.out.i2
      have i3 := HK.out.i3
      have r2b : W.cell? ⟨k2, b.toNat, none⟩ = some (.int .i64 (rd (ls 2) b)) := (HK.out.rc 2 HE2.out b HPb2.out.1 HPb2.out.2).1
      have rf2b : W.frozen? ⟨k2, b.toNat, none⟩ = false := (HK.out.rc 2 HE2.out b HPb2.out.1 HPb2.out.2).2
      have r2c : W.cell? ⟨k2, c.toNat, none⟩ = some (.int .i64 (rd (ls 2) c)) := (HK.out.rc 2 HE2.out c HPc2.out.1 HPc2.out.2).1
      have rf2c : W.frozen? ⟨k2, c.toNat, none⟩ = false := (HK.out.rc 2 HE2.out c HPc2.out.1 HPc2.out.2).2
      clear x9 xr
      go_wp2
      go_still_tail 15, (by kernel_rfl)
      change wpList _ _ _ _ _ W.drew
      replace HK := am HK.out.drew
      generalize W.drew = W at HK ⊢
      try simp only [i64_w]
      clear i0 i1 i2 i3 r2b rf2b r2c rf2c
      have r2a : W.cell? ⟨k2, a.toNat, none⟩ = some (.int .i64 (rd (ls 2) a)) := (HK.out.rc 2 HE2.out a HPa2.out.1 HPa2.out.2).1
      have rf2a : W.frozen? ⟨k2, a.toNat, none⟩ = false := (HK.out.rc 2 HE2.out a HPa2.out.1 HPa2.out.2).2
      go_wp2_with (first | ((with_reducible refine gs 3 115 ?_); refine sv (W.setCell ⟨k2, (a : Int).toNat, none⟩ (.int .i64 (wrap64 (rd (ls 2) b - rd (ls 2) c)))) ?_; intro W hw; clear r2a rf2a; replace HK := am (show KS w W w.heap.size b4 b6 b7 b8 b9 P ⟨4, a, b, c⟩ nc g g (st (st ls 0 0 (wrap64 (rd (ls 0) 0 + 1))) 2 a (wrap64 (rd (ls 2) b - rd (ls 2) c))) vR vQ tr ⟨0, rd (ls 0) 0, 4, 0, 0, 0⟩ by rw [hw]; exact KS.put HK.out 2 HE2.out a (wrap64 (rd (ls 2) b - rd (ls 2) c))); clear hw))
      have HONE : Aside0 ((sCells P g vR vQ tr).all (·.oneCell') = true) := ⟨by rw [← show sCells P g vR vQ tr = sCells P g vR vQ tr from rfl]; exact sOne _ (HK.out.ws.rs (Seen.refl g _)) HC.out HT.out⟩
      replace HK := am HK.out.drew
      refine sa 5 (fun w' => w'.heap[b4]? = some (.cells (sCells P g vR vQ tr) 70 (0, 0)) ∧ w'.heap[b7]? = some (.cells (eCells ⟨0, rd (ls 0) 0, 4, 0, 0, 0⟩) 75 (0, 0))) tailT40 (⟨HK.out.x4, HK.out.x7⟩) [3] (fun HT_ hHeld => ?_)
      generalize W.drew = W at hHeld HK ⊢
      refine ta 0 233 HT_ hHeld (v := (.agg (sCells P g vR vQ tr))) ?_ ?_
      · exact fun w' hS' => exec_load_row 70 (.tmp 7) rfl b4 rfl 70 (sCells P g vR vQ tr) (0, 0) _ hS'.1 Try.underlying70 rfl size70
      refine ta 1 234 HT_ hHeld (v := (.agg (eCells ⟨0, rd (ls 0) 0, 4, 0, 0, 0⟩))) ?_ ?_
      · exact fun w' hS' => exec_load_row 75 (.tmp 9) rfl b7 rfl 75 (eCells ⟨0, rd (ls 0) 0, 4, 0, 0, 0⟩) (0, 0) _ hS'.2 Try.underlying75 rfl size75
      refine on 2 (none) HT_ (fun K hK => ?_)
      refine skip_ (w1 := W.setRow b8 (sCells P g vR vQ tr)) (by rfl) rfl (exec_store_row 70 (.tmp 4) (.tmp 233) rfl b8 (sCells P g vR vQ tr) rfl rfl 70 _ HK.out.x8 size70 rfl HONE.out) ?_
      refine hK.out _ _ (⟨(setRow_other _ _ _ _ HK.out.n48).trans hHeld.1, (setRow_other _ _ _ _ (blk_ne HK.out.x7 HK.out.x8 (by decide))).trans hHeld.2⟩) (fun hHeld => ?_)
      clear hK K
      refine la 3 (none) HT_ (fun K hK => ?_)
      refine skip_ (w1 := (W.setRow b8 (sCells P g vR vQ tr)).setRow b9 (eCells ⟨0, rd (ls 0) 0, 4, 0, 0, 0⟩)) (by rfl) rfl (exec_store_row 75 (.tmp 5) (.tmp 234) rfl b9 (eCells ⟨0, rd (ls 0) 0, 4, 0, 0, 0⟩) rfl rfl 75 _ ((setRow_other _ _ _ _ (Ne.symm HK.out.n89)).trans HK.out.x9) size75 rfl (eOne _)) ?_
      refine hK.out _ _ ?_
      clear hK K
      refine pu 4 6 HT_ ?_
      refine dn HT_ ?_
      go_wp2
      obtain ⟨f1, f2, f3⟩ := KS.fin HK.out rfl (Seen.refl g _) rfl
      refine results3 rfl b8 b9 _ _ true f2 f3 ?hp ?hq ?hr ?hd (by rw [HFE.out]; exact f1)
      case hp => rfl
      case hq => rfl
      case hr => rfl
      case hd => rfl
  by_cases c5 : o = 5
  · as_aux_lemma =>
      subst c5
      have HFE : Aside0 (FT = (st (st ls 0 0 (wrap64 (rd (ls 0) 0 + 1))) 2 a (wrap64 (rd (ls 2) b * rd (ls 2) c)), tr)) := ⟨by rw [HFT.out]; rfl⟩
      obtain ⟨q0, q1⟩ := HOK.out.a2 (by simp)
      rw [H2.out] at q1
      replace q0 : 0 ≤ a := q0
      replace q1 : a < (4 : Int) := q1
      have HPa2 : Aside0 (0 ≤ a ∧ a < ((4 : Nat) : Int)) := ⟨⟨q0, q1⟩⟩
      have ta0 := eq_true q0
      have ta21 := eq_true q1
      clear q0 q1
      obtain ⟨q0, q1⟩ := HOK.out.b2 (by simp)
      rw [H2.out] at q1
      replace q0 : 0 ≤ b := q0
      replace q1 : b < (4 : Int) := q1
      have HPb2 : Aside0 (0 ≤ b ∧ b < ((4 : Nat) : Int)) := ⟨⟨q0, q1⟩⟩
      have tb0 := eq_true q0
      have tb21 := eq_true q1
      clear q0 q1
      obtain ⟨q0, q1⟩ := HOK.out.c2 (by simp)
      rw [H2.out] at q1
      replace q0 : 0 ≤ c := q0
      replace q1 : c < (4 : Int) := q1
      have HPc2 : Aside0 (0 ≤ c ∧ c < ((4 : Nat) : Int)) := ⟨⟨q0, q1⟩⟩
      have tc0 := eq_true q0
      have tc21 := eq_true q1
      clear q0 q1
      have i0 := HK.out.i0
      have i1 := HK.out.i1
      have i2 := HK.out.i2
      have i3 := HK.out.i3
      have r2b : W.cell? ⟨k2, b.toNat, none⟩ = some (.int .i64 (rd (ls 2) b)) := (HK.out.rc 2 HE2.out b HPb2.out.1 HPb2.out.2).1
      have rf2b : W.frozen? ⟨k2, b.toNat, none⟩ = false := (HK.out.rc 2 HE2.out b HPb2.out.1 HPb2.out.2).2
      have r2c : W.cell? ⟨k2, c.toNat, none⟩ = some (.int .i64 (rd (ls 2) c)) := (HK.out.rc 2 HE2.out c HPc2.out.1 HPc2.out.2).1
      have rf2c : W.frozen? ⟨k2, c.toNat, none⟩ = false := (HK.out.rc 2 HE2.out c HPc2.out.1 HPc2.out.2).2
      clear x9 xr
      go_wp2
      go_still_tail 15, (by kernel_rfl)
      change wpList _ _ _ _ _ W.drew
      replace HK := am HK.out.drew
      generalize W.drew = W at HK ⊢
      try simp only [i64_w]
      clear i0 i1 i2 i3 r2b rf2b r2c rf2c
      have r2a : W.cell? ⟨k2, a.toNat, none⟩ = some (.int .i64 (rd (ls 2) a)) := (HK.out.rc 2 HE2.out a HPa2.out.1 HPa2.out.2).1
      have rf2a : W.frozen? ⟨k2, a.toNat, none⟩ = false := (HK.out.rc 2 HE2.out a HPa2.out.1 HPa2.out.2).2
      go_wp2_with (first | ((with_reducible refine gs 3 132 ?_); refine sv (W.setCell ⟨k2, (a : Int).toNat, none⟩ (.int .i64 (wrap64 (rd (ls 2) b * rd (ls 2) c)))) ?_; intro W hw; clear r2a rf2a; replace HK := am (show KS w W w.heap.size b4 b6 b7 b8 b9 P ⟨5, a, b, c⟩ nc g g (st (st ls 0 0 (wrap64 (rd (ls 0) 0 + 1))) 2 a (wrap64 (rd (ls 2) b * rd (ls 2) c))) vR vQ tr ⟨0, rd (ls 0) 0, 5, 0, 0, 0⟩ by rw [hw]; exact KS.put HK.out 2 HE2.out a (wrap64 (rd (ls 2) b * rd (ls 2) c))); clear hw))
      have HONE : Aside0 ((sCells P g vR vQ tr).all (·.oneCell') = true) := ⟨by rw [← show sCells P g vR vQ tr = sCells P g vR vQ tr from rfl]; exact sOne _ (HK.out.ws.rs (Seen.refl g _)) HC.out HT.out⟩
      replace HK := am HK.out.drew
      refine sa 5 (fun w' => w'.heap[b4]? = some (.cells (sCells P g vR vQ tr) 70 (0, 0)) ∧ w'.heap[b7]? = some (.cells (eCells ⟨0, rd (ls 0) 0, 5, 0, 0, 0⟩) 75 (0, 0))) tailT40 (⟨HK.out.x4, HK.out.x7⟩) [3] (fun HT_ hHeld => ?_)
      generalize W.drew = W at hHeld HK ⊢
      refine ta 0 233 HT_ hHeld (v := (.agg (sCells P g vR vQ tr))) ?_ ?_
      · exact fun w' hS' => exec_load_row 70 (.tmp 7) rfl b4 rfl 70 (sCells P g vR vQ tr) (0, 0) _ hS'.1 Try.underlying70 rfl size70
      refine ta 1 234 HT_ hHeld (v := (.agg (eCells ⟨0, rd (ls 0) 0, 5, 0, 0, 0⟩))) ?_ ?_
      · exact fun w' hS' => exec_load_row 75 (.tmp 9) rfl b7 rfl 75 (eCells ⟨0, rd (ls 0) 0, 5, 0, 0, 0⟩) (0, 0) _ hS'.2 Try.underlying75 rfl size75
      refine on 2 (none) HT_ (fun K hK => ?_)
      refine skip_ (w1 := W.setRow b8 (sCells P g vR vQ tr)) (by rfl) rfl (exec_store_row 70 (.tmp 4) (.tmp 233) rfl b8 (sCells P g vR vQ tr) rfl rfl 70 _ HK.out.x8 size70 rfl HONE.out) ?_
      refine hK.out _ _ (⟨(setRow_other _ _ _ _ HK.out.n48).trans hHeld.1, (setRow_other _ _ _ _ (blk_ne HK.out.x7 HK.out.x8 (by decide))).trans hHeld.2⟩) (fun hHeld => ?_)
      clear hK K
      refine la 3 (none) HT_ (fun K hK => ?_)
      refine skip_ (w1 := (W.setRow b8 (sCells P g vR vQ tr)).setRow b9 (eCells ⟨0, rd (ls 0) 0, 5, 0, 0, 0⟩)) (by rfl) rfl (exec_store_row 75 (.tmp 5) (.tmp 234) rfl b9 (eCells ⟨0, rd (ls 0) 0, 5, 0, 0, 0⟩) rfl rfl 75 _ ((setRow_other _ _ _ _ (Ne.symm HK.out.n89)).trans HK.out.x9) size75 rfl (eOne _)) ?_
      refine hK.out _ _ ?_
      clear hK K
      refine pu 4 6 HT_ ?_
      refine dn HT_ ?_
      go_wp2
      obtain ⟨f1, f2, f3⟩ := KS.fin HK.out rfl (Seen.refl g _) rfl
      refine results3 rfl b8 b9 _ _ true f2 f3 ?hp ?hq ?hr ?hd (by rw [HFE.out]; exact f1)
      case hp => rfl
      case hq => rfl
      case hr => rfl
      case hd => rfl
  by_cases c6 : o = 6
  · subst c6
    by_cases hz : rd (ls 2) b < rd (ls 2) c
    · as_aux_lemma =>
        have hv : (if rd (ls 2) b < rd (ls 2) c then (1 : Int) else 0) = 1 := if_pos hz
        have HFE : Aside0 (FT = (st (st ls 0 0 (wrap64 (rd (ls 0) 0 + 1))) 2 a 1, tr)) := ⟨by rw [HFT.out, show stepF ls tr ⟨6, a, b, c⟩ = (st (st ls 0 0 (wrap64 (rd (ls 0) 0 + 1))) 2 a (if rd (ls 2) b < rd (ls 2) c then (1 : Int) else 0), tr) from rfl, hv]⟩
        obtain ⟨q0, q1⟩ := HOK.out.a2 (by simp)
        rw [H2.out] at q1
        replace q0 : 0 ≤ a := q0
        replace q1 : a < (4 : Int) := q1
        have HPa2 : Aside0 (0 ≤ a ∧ a < ((4 : Nat) : Int)) := ⟨⟨q0, q1⟩⟩
        have ta0 := eq_true q0
        have ta21 := eq_true q1
        clear q0 q1
        obtain ⟨q0, q1⟩ := HOK.out.b2 (by simp)
        rw [H2.out] at q1
        replace q0 : 0 ≤ b := q0
        replace q1 : b < (4 : Int) := q1
        have HPb2 : Aside0 (0 ≤ b ∧ b < ((4 : Nat) : Int)) := ⟨⟨q0, q1⟩⟩
        have tb0 := eq_true q0
        have tb21 := eq_true q1
        clear q0 q1
        obtain ⟨q0, q1⟩ := HOK.out.c2 (by simp)
        rw [H2.out] at q1
        replace q0 : 0 ≤ c := q0
        replace q1 : c < (4 : Int) := q1
        have HPc2 : Aside0 (0 ≤ c ∧ c < ((4 : Nat) : Int)) := ⟨⟨q0, q1⟩⟩
        have tc0 := eq_true q0
        have tc21 := eq_true q1
        clear q0 q1
        have i0 := HK.out.i0
        have i1 := HK.out.i1
        have i2 := HK.out.i2
        have i3 := HK.out.i3
        have r2b : W.cell? ⟨k2, b.toNat, none⟩ = some (.int .i64 (rd (ls 2) b)) := (HK.out.rc 2 HE2.out b HPb2.out.1 HPb2.out.2).1
        have rf2b : W.frozen? ⟨k2, b.toNat, none⟩ = false := (HK.out.rc 2 HE2.out b HPb2.out.1 HPb2.out.2).2
        have r2c : W.cell? ⟨k2, c.toNat, none⟩ = some (.int .i64 (rd (ls 2) c)) := (HK.out.rc 2 HE2.out c HPc2.out.1 HPc2.out.2).1
        have rf2c : W.frozen? ⟨k2, c.toNat, none⟩ = false := (HK.out.rc 2 HE2.out c HPc2.out.1 HPc2.out.2).2
        clear x9 xr hv
        have z1 := eq_true hz
        clear hz
        go_wp2
        refine wp_region_still_tail 16 (by kernel_rfl) (by kernel_rfl) ?_
        simp only [List.take_succ_cons, List.take_zero, List.drop_succ_cons, List.drop_zero]
        iterate 14 still_step
        still_call (number_any _ _)
        iterate 1 still_step
        refine wpStill_nil ?_
        change wpList _ _ _ _ _ W.drew
        replace HK := am HK.out.drew
        generalize W.drew = W at HK ⊢
        try simp only [i64_w]
        clear i0 i1 i2 i3 r2b rf2b r2c rf2c
        have r2a : W.cell? ⟨k2, a.toNat, none⟩ = some (.int .i64 (rd (ls 2) a)) := (HK.out.rc 2 HE2.out a HPa2.out.1 HPa2.out.2).1
        have rf2a : W.frozen? ⟨k2, a.toNat, none⟩ = false := (HK.out.rc 2 HE2.out a HPa2.out.1 HPa2.out.2).2
        try simp only [z1, decide_true, decide_false, if_true, Bool.false_eq_true, if_false]
        go_wp2_with (first | ((with_reducible refine gs 3 150 ?_); refine sv (W.setCell ⟨k2, (a : Int).toNat, none⟩ (.int .i64 (1))) ?_; intro W hw; clear r2a rf2a; replace HK := am (show KS w W w.heap.size b4 b6 b7 b8 b9 P ⟨6, a, b, c⟩ nc g g (st (st ls 0 0 (wrap64 (rd (ls 0) 0 + 1))) 2 a (1)) vR vQ tr ⟨0, rd (ls 0) 0, 6, 0, 0, 0⟩ by rw [hw]; exact KS.put HK.out 2 HE2.out a (1)); clear hw))
        have HONE : Aside0 ((sCells P g vR vQ tr).all (·.oneCell') = true) := ⟨by rw [← show sCells P g vR vQ tr = sCells P g vR vQ tr from rfl]; exact sOne _ (HK.out.ws.rs (Seen.refl g _)) HC.out HT.out⟩
        replace HK := am HK.out.drew
        refine sa 5 (fun w' => w'.heap[b4]? = some (.cells (sCells P g vR vQ tr) 70 (0, 0)) ∧ w'.heap[b7]? = some (.cells (eCells ⟨0, rd (ls 0) 0, 6, 0, 0, 0⟩) 75 (0, 0))) tailT40 (⟨HK.out.x4, HK.out.x7⟩) [3] (fun HT_ hHeld => ?_)
        generalize W.drew = W at hHeld HK ⊢
        refine ta 0 233 HT_ hHeld (v := (.agg (sCells P g vR vQ tr))) ?_ ?_
        · exact fun w' hS' => exec_load_row 70 (.tmp 7) rfl b4 rfl 70 (sCells P g vR vQ tr) (0, 0) _ hS'.1 Try.underlying70 rfl size70
        refine ta 1 234 HT_ hHeld (v := (.agg (eCells ⟨0, rd (ls 0) 0, 6, 0, 0, 0⟩))) ?_ ?_
        · exact fun w' hS' => exec_load_row 75 (.tmp 9) rfl b7 rfl 75 (eCells ⟨0, rd (ls 0) 0, 6, 0, 0, 0⟩) (0, 0) _ hS'.2 Try.underlying75 rfl size75
        refine on 2 (none) HT_ (fun K hK => ?_)
        refine skip_ (w1 := W.setRow b8 (sCells P g vR vQ tr)) (by rfl) rfl (exec_store_row 70 (.tmp 4) (.tmp 233) rfl b8 (sCells P g vR vQ tr) rfl rfl 70 _ HK.out.x8 size70 rfl HONE.out) ?_
        refine hK.out _ _ (⟨(setRow_other _ _ _ _ HK.out.n48).trans hHeld.1, (setRow_other _ _ _ _ (blk_ne HK.out.x7 HK.out.x8 (by decide))).trans hHeld.2⟩) (fun hHeld => ?_)
        clear hK K
        refine la 3 (none) HT_ (fun K hK => ?_)
        refine skip_ (w1 := (W.setRow b8 (sCells P g vR vQ tr)).setRow b9 (eCells ⟨0, rd (ls 0) 0, 6, 0, 0, 0⟩)) (by rfl) rfl (exec_store_row 75 (.tmp 5) (.tmp 234) rfl b9 (eCells ⟨0, rd (ls 0) 0, 6, 0, 0, 0⟩) rfl rfl 75 _ ((setRow_other _ _ _ _ (Ne.symm HK.out.n89)).trans HK.out.x9) size75 rfl (eOne _)) ?_
        refine hK.out _ _ ?_
        clear hK K
        refine pu 4 6 HT_ ?_
        refine dn HT_ ?_
        go_wp2
        obtain ⟨f1, f2, f3⟩ := KS.fin HK.out rfl (Seen.refl g _) rfl
        refine results3 rfl b8 b9 _ _ true f2 f3 ?hp ?hq ?hr ?hd (by rw [HFE.out]; exact f1)
        case hp => rfl
        case hq => rfl
        case hr => rfl
        case hd => rfl
    · as_aux_lemma =>
        have hv : (if rd (ls 2) b < rd (ls 2) c then (1 : Int) else 0) = 0 := if_neg hz
        have HFE : Aside0 (FT = (st (st ls 0 0 (wrap64 (rd (ls 0) 0 + 1))) 2 a 0, tr)) := ⟨by rw [HFT.out, show stepF ls tr ⟨6, a, b, c⟩ = (st (st ls 0 0 (wrap64 (rd (ls 0) 0 + 1))) 2 a (if rd (ls 2) b < rd (ls 2) c then (1 : Int) else 0), tr) from rfl, hv]⟩
        obtain ⟨q0, q1⟩ := HOK.out.a2 (by simp)
        rw [H2.out] at q1
        replace q0 : 0 ≤ a := q0
        replace q1 : a < (4 : Int) := q1
        have HPa2 : Aside0 (0 ≤ a ∧ a < ((4 : Nat) : Int)) := ⟨⟨q0, q1⟩⟩
        have ta0 := eq_true q0
        have ta21 := eq_true q1
        clear q0 q1
        obtain ⟨q0, q1⟩ := HOK.out.b2 (by simp)
        rw [H2.out] at q1
        replace q0 : 0 ≤ b := q0
        replace q1 : b < (4 : Int) := q1
        have HPb2 : Aside0 (0 ≤ b ∧ b < ((4 : Nat) : Int)) := ⟨⟨q0, q1⟩⟩
        have tb0 := eq_true q0
        have tb21 := eq_true q1
        clear q0 q1
        obtain ⟨q0, q1⟩ := HOK.out.c2 (by simp)
        rw [H2.out] at q1
        replace q0 : 0 ≤ c := q0
        replace q1 : c < (4 : Int) := q1
        have HPc2 : Aside0 (0 ≤ c ∧ c < ((4 : Nat) : Int)) := ⟨⟨q0, q1⟩⟩
        have tc0 := eq_true q0
        have tc21 := eq_true q1
        clear q0 q1
        have i0 := HK.out.i0
        have i1 := HK.out.i1
        have i2 := HK.out.i2
        have i3 := HK.out.i3
        have r2b : W.cell? ⟨k2, b.toNat, none⟩ = some (.int .i64 (rd (ls 2) b)) := (HK.out.rc 2 HE2.out b HPb2.out.1 HPb2.out.2).1
        have rf2b : W.frozen? ⟨k2, b.toNat, none⟩ = false := (HK.out.rc 2 HE2.out b HPb2.out.1 HPb2.out.2).2
        have r2c : W.cell? ⟨k2, c.toNat, none⟩ = some (.int .i64 (rd (ls 2) c)) := (HK.out.rc 2 HE2.out c HPc2.out.1 HPc2.out.2).1
        have rf2c : W.frozen? ⟨k2, c.toNat, none⟩ = false := (HK.out.rc 2 HE2.out c HPc2.out.1 HPc2.out.2).2
        clear x9 xr hv
        have z1 := eq_false hz
        clear hz
        go_wp2
        refine wp_region_still_tail 16 (by kernel_rfl) (by kernel_rfl) ?_
        simp only [List.take_succ_cons, List.take_zero, List.drop_succ_cons, List.drop_zero]
        iterate 14 still_step
        still_call (number_any _ _)
        iterate 1 still_step
        refine wpStill_nil ?_
        change wpList _ _ _ _ _ W.drew
        replace HK := am HK.out.drew
        generalize W.drew = W at HK ⊢
        try simp only [i64_w]
        clear i0 i1 i2 i3 r2b rf2b r2c rf2c
        have r2a : W.cell? ⟨k2, a.toNat, none⟩ = some (.int .i64 (rd (ls 2) a)) := (HK.out.rc 2 HE2.out a HPa2.out.1 HPa2.out.2).1
        have rf2a : W.frozen? ⟨k2, a.toNat, none⟩ = false := (HK.out.rc 2 HE2.out a HPa2.out.1 HPa2.out.2).2
        try simp only [z1, decide_true, decide_false, if_true, Bool.false_eq_true, if_false]
        go_wp2_with (first | ((with_reducible refine gs 3 150 ?_); refine sv (W.setCell ⟨k2, (a : Int).toNat, none⟩ (.int .i64 (0))) ?_; intro W hw; clear r2a rf2a; replace HK := am (show KS w W w.heap.size b4 b6 b7 b8 b9 P ⟨6, a, b, c⟩ nc g g (st (st ls 0 0 (wrap64 (rd (ls 0) 0 + 1))) 2 a (0)) vR vQ tr ⟨0, rd (ls 0) 0, 6, 0, 0, 0⟩ by rw [hw]; exact KS.put HK.out 2 HE2.out a (0)); clear hw))
        have HONE : Aside0 ((sCells P g vR vQ tr).all (·.oneCell') = true) := ⟨by rw [← show sCells P g vR vQ tr = sCells P g vR vQ tr from rfl]; exact sOne _ (HK.out.ws.rs (Seen.refl g _)) HC.out HT.out⟩
        replace HK := am HK.out.drew
        refine sa 5 (fun w' => w'.heap[b4]? = some (.cells (sCells P g vR vQ tr) 70 (0, 0)) ∧ w'.heap[b7]? = some (.cells (eCells ⟨0, rd (ls 0) 0, 6, 0, 0, 0⟩) 75 (0, 0))) tailT40 (⟨HK.out.x4, HK.out.x7⟩) [3] (fun HT_ hHeld => ?_)
        generalize W.drew = W at hHeld HK ⊢
        refine ta 0 233 HT_ hHeld (v := (.agg (sCells P g vR vQ tr))) ?_ ?_
        · exact fun w' hS' => exec_load_row 70 (.tmp 7) rfl b4 rfl 70 (sCells P g vR vQ tr) (0, 0) _ hS'.1 Try.underlying70 rfl size70
        refine ta 1 234 HT_ hHeld (v := (.agg (eCells ⟨0, rd (ls 0) 0, 6, 0, 0, 0⟩))) ?_ ?_
        · exact fun w' hS' => exec_load_row 75 (.tmp 9) rfl b7 rfl 75 (eCells ⟨0, rd (ls 0) 0, 6, 0, 0, 0⟩) (0, 0) _ hS'.2 Try.underlying75 rfl size75
        refine on 2 (none) HT_ (fun K hK => ?_)
        refine skip_ (w1 := W.setRow b8 (sCells P g vR vQ tr)) (by rfl) rfl (exec_store_row 70 (.tmp 4) (.tmp 233) rfl b8 (sCells P g vR vQ tr) rfl rfl 70 _ HK.out.x8 size70 rfl HONE.out) ?_
        refine hK.out _ _ (⟨(setRow_other _ _ _ _ HK.out.n48).trans hHeld.1, (setRow_other _ _ _ _ (blk_ne HK.out.x7 HK.out.x8 (by decide))).trans hHeld.2⟩) (fun hHeld => ?_)
        clear hK K
        refine la 3 (none) HT_ (fun K hK => ?_)
        refine skip_ (w1 := (W.setRow b8 (sCells P g vR vQ tr)).setRow b9 (eCells ⟨0, rd (ls 0) 0, 6, 0, 0, 0⟩)) (by rfl) rfl (exec_store_row 75 (.tmp 5) (.tmp 234) rfl b9 (eCells ⟨0, rd (ls 0) 0, 6, 0, 0, 0⟩) rfl rfl 75 _ ((setRow_other _ _ _ _ (Ne.symm HK.out.n89)).trans HK.out.x9) size75 rfl (eOne _)) ?_
        refine hK.out _ _ ?_
        clear hK K
        refine pu 4 6 HT_ ?_
        refine dn HT_ ?_
        go_wp2
        obtain ⟨f1, f2, f3⟩ := KS.fin HK.out rfl (Seen.refl g _) rfl
        refine results3 rfl b8 b9 _ _ true f2 f3 ?hp ?hq ?hr ?hd (by rw [HFE.out]; exact f1)
        case hp => rfl
        case hq => rfl
        case hr => rfl
        case hd => rfl
  by_cases c7 : o = 7
  · as_aux_lemma =>
      subst c7
      have HFE : Aside0 (FT = (st (st ls 0 0 (wrap64 (rd (ls 0) 0 + 1))) 2 a (rd (ls 4) b), tr)) := ⟨by rw [HFT.out]; rfl⟩
      obtain ⟨q0, q1⟩ := HOK.out.a2 (by simp)
      rw [H2.out] at q1
      replace q0 : 0 ≤ a := q0
      replace q1 : a < (4 : Int) := q1
      have HPa2 : Aside0 (0 ≤ a ∧ a < ((4 : Nat) : Int)) := ⟨⟨q0, q1⟩⟩
      have ta0 := eq_true q0
      have ta21 := eq_true q1
      clear q0 q1
      obtain ⟨q0, q1⟩ := HOK.out.v2 (by simp)
      replace q0 : 0 ≤ b := q0
      replace q1 : b < ((ls 4).length : Int) := q1
      obtain ⟨k4, c4, e4, _⟩ := HK.out.ws.at 4 b q0 q1
      have HE4 : Aside0 (g 4 = .slice (some ⟨k4, 0, none⟩) (ls 4).length c4) := ⟨e4⟩
      clear e4
      have HPb4 := am (And.intro q0 q1)
      have tb0 := eq_true q0
      have tb41 := eq_true q1
      clear q0 q1
      have i0 := HK.out.i0
      have i1 := HK.out.i1
      have i2 := HK.out.i2
      have s10 := Box.at10 HK.out.x4
      rw [HE4.out] at s10
      have r4b : W.cell? ⟨k4, b.toNat, none⟩ = some (.int .i64 (rd (ls 4) b)) := (HK.out.rc 4 HE4.out b HPb4.out.1 HPb4.out.2).1
      have rf4b : W.frozen? ⟨k4, b.toNat, none⟩ = false := (HK.out.rc 4 HE4.out b HPb4.out.1 HPb4.out.2).2
      clear x9 xr
      go_wp2
      go_still_tail 10, (by kernel_rfl)
      change wpList _ _ _ _ _ W.drew
      replace HK := am HK.out.drew
      generalize W.drew = W at HK ⊢
      try simp only [i64_w]
      clear i0 i1 i2 s10 r4b rf4b
      have r2a : W.cell? ⟨k2, a.toNat, none⟩ = some (.int .i64 (rd (ls 2) a)) := (HK.out.rc 2 HE2.out a HPa2.out.1 HPa2.out.2).1
      have rf2a : W.frozen? ⟨k2, a.toNat, none⟩ = false := (HK.out.rc 2 HE2.out a HPa2.out.1 HPa2.out.2).2
      go_wp2_with (first | ((with_reducible refine gs 3 162 ?_); refine sv (W.setCell ⟨k2, (a : Int).toNat, none⟩ (.int .i64 (rd (ls 4) b))) ?_; intro W hw; clear r2a rf2a; replace HK := am (show KS w W w.heap.size b4 b6 b7 b8 b9 P ⟨7, a, b, c⟩ nc g g (st (st ls 0 0 (wrap64 (rd (ls 0) 0 + 1))) 2 a (rd (ls 4) b)) vR vQ tr ⟨0, rd (ls 0) 0, 7, 0, 0, 0⟩ by rw [hw]; exact KS.put HK.out 2 HE2.out a (rd (ls 4) b)); clear hw; have i2 := HK.out.i2; obtain ⟨e3, ef3⟩ := HK.out.e3) | ((with_reducible refine gs 3 165 ?_); refine sv (W.setCell ⟨b7, 3, none⟩ (.int .i64 (b))) ?_; intro W hw; clear i2 e3 ef3; replace HK := am (show KS w W w.heap.size b4 b6 b7 b8 b9 P ⟨7, a, b, c⟩ nc g g (st (st ls 0 0 (wrap64 (rd (ls 0) 0 + 1))) 2 a (rd (ls 4) b)) vR vQ tr ⟨0, rd (ls 0) 0, 7, (b), 0, 0⟩ by rw [hw]; exact KS.evs HK.out 3 (.int .i64 (b)) rfl); clear hw; have i1 := HK.out.i1; obtain ⟨r2a, rf2a⟩ := HK.out.rc 2 HE2.out a HPa2.out.1 HPa2.out.2; obtain ⟨e4, ef4⟩ := HK.out.e4) | ((with_reducible refine gs 3 171 ?_); refine sv (W.setCell ⟨b7, 4, none⟩ (.int .i64 (rd ((st (st ls 0 0 (wrap64 (rd (ls 0) 0 + 1))) 2 a (rd (ls 4) b)) 2) a))) ?_; intro W hw; clear i1 r2a rf2a e4 ef4; replace HK := am (show KS w W w.heap.size b4 b6 b7 b8 b9 P ⟨7, a, b, c⟩ nc g g (st (st ls 0 0 (wrap64 (rd (ls 0) 0 + 1))) 2 a (rd (ls 4) b)) vR vQ tr ⟨0, rd (ls 0) 0, 7, (b), (rd ((st (st ls 0 0 (wrap64 (rd (ls 0) 0 + 1))) 2 a (rd (ls 4) b)) 2) a), 0⟩ by rw [hw]; exact KS.evs HK.out 4 (.int .i64 (rd ((st (st ls 0 0 (wrap64 (rd (ls 0) 0 + 1))) 2 a (rd (ls 4) b)) 2) a)) rfl); clear hw))
      have HONE : Aside0 ((sCells P g vR vQ tr).all (·.oneCell') = true) := ⟨by rw [← show sCells P g vR vQ tr = sCells P g vR vQ tr from rfl]; exact sOne _ (HK.out.ws.rs (Seen.refl g _)) HC.out HT.out⟩
      replace HK := am HK.out.drew
      refine sa 5 (fun w' => w'.heap[b4]? = some (.cells (sCells P g vR vQ tr) 70 (0, 0)) ∧ w'.heap[b7]? = some (.cells (eCells ⟨0, rd (ls 0) 0, 7, (b), (rd ((st (st ls 0 0 (wrap64 (rd (ls 0) 0 + 1))) 2 a (rd (ls 4) b)) 2) a), 0⟩) 75 (0, 0))) tailT40 (⟨HK.out.x4, HK.out.x7⟩) [3] (fun HT_ hHeld => ?_)
      generalize W.drew = W at hHeld HK ⊢
      refine ta 0 233 HT_ hHeld (v := (.agg (sCells P g vR vQ tr))) ?_ ?_
      · exact fun w' hS' => exec_load_row 70 (.tmp 7) rfl b4 rfl 70 (sCells P g vR vQ tr) (0, 0) _ hS'.1 Try.underlying70 rfl size70
      refine ta 1 234 HT_ hHeld (v := (.agg (eCells ⟨0, rd (ls 0) 0, 7, (b), (rd ((st (st ls 0 0 (wrap64 (rd (ls 0) 0 + 1))) 2 a (rd (ls 4) b)) 2) a), 0⟩))) ?_ ?_
      · exact fun w' hS' => exec_load_row 75 (.tmp 9) rfl b7 rfl 75 (eCells ⟨0, rd (ls 0) 0, 7, (b), (rd ((st (st ls 0 0 (wrap64 (rd (ls 0) 0 + 1))) 2 a (rd (ls 4) b)) 2) a), 0⟩) (0, 0) _ hS'.2 Try.underlying75 rfl size75
      refine on 2 (none) HT_ (fun K hK => ?_)
      refine skip_ (w1 := W.setRow b8 (sCells P g vR vQ tr)) (by rfl) rfl (exec_store_row 70 (.tmp 4) (.tmp 233) rfl b8 (sCells P g vR vQ tr) rfl rfl 70 _ HK.out.x8 size70 rfl HONE.out) ?_
      refine hK.out _ _ (⟨(setRow_other _ _ _ _ HK.out.n48).trans hHeld.1, (setRow_other _ _ _ _ (blk_ne HK.out.x7 HK.out.x8 (by decide))).trans hHeld.2⟩) (fun hHeld => ?_)
      clear hK K
      refine la 3 (none) HT_ (fun K hK => ?_)
      refine skip_ (w1 := (W.setRow b8 (sCells P g vR vQ tr)).setRow b9 (eCells ⟨0, rd (ls 0) 0, 7, (b), (rd ((st (st ls 0 0 (wrap64 (rd (ls 0) 0 + 1))) 2 a (rd (ls 4) b)) 2) a), 0⟩)) (by rfl) rfl (exec_store_row 75 (.tmp 5) (.tmp 234) rfl b9 (eCells ⟨0, rd (ls 0) 0, 7, (b), (rd ((st (st ls 0 0 (wrap64 (rd (ls 0) 0 + 1))) 2 a (rd (ls 4) b)) 2) a), 0⟩) rfl rfl 75 _ ((setRow_other _ _ _ _ (Ne.symm HK.out.n89)).trans HK.out.x9) size75 rfl (eOne _)) ?_
      refine hK.out _ _ ?_
      clear hK K
      refine pu 4 6 HT_ ?_
      refine dn HT_ ?_
      go_wp2
      obtain ⟨f1, f2, f3⟩ := KS.fin HK.out rfl (Seen.refl g _) rfl
      refine results3 rfl b8 b9 _ _ true f2 f3 ?hp ?hq ?hr ?hd (by rw [HFE.out]; exact f1)
      case hp => rfl
      case hq => rfl
      case hr => rfl
      case hd => rfl
  by_cases c8 : o = 8
  · as_aux_lemma =>
      subst c8
      have HFE : Aside0 (FT = (st (st ls 0 0 (wrap64 (rd (ls 0) 0 + 1))) 4 a (rd (ls 2) b), tr)) := ⟨by rw [HFT.out]; rfl⟩
      obtain ⟨q0, q1⟩ := HOK.out.v1 (by simp)
      replace q0 : 0 ≤ a := q0
      replace q1 : a < ((ls 4).length : Int) := q1
      obtain ⟨k4, c4, e4, _⟩ := HK.out.ws.at 4 a q0 q1
      have HE4 : Aside0 (g 4 = .slice (some ⟨k4, 0, none⟩) (ls 4).length c4) := ⟨e4⟩
      clear e4
      have HPa4 := am (And.intro q0 q1)
      have ta0 := eq_true q0
      have ta41 := eq_true q1
      clear q0 q1
      obtain ⟨q0, q1⟩ := HOK.out.b2 (by simp)
      rw [H2.out] at q1
      replace q0 : 0 ≤ b := q0
      replace q1 : b < (4 : Int) := q1
      have HPb2 : Aside0 (0 ≤ b ∧ b < ((4 : Nat) : Int)) := ⟨⟨q0, q1⟩⟩
      have tb0 := eq_true q0
      have tb21 := eq_true q1
      clear q0 q1
      have i0 := HK.out.i0
      have i1 := HK.out.i1
      have i2 := HK.out.i2
      have s10 := Box.at10 HK.out.x4
      rw [HE4.out] at s10
      have r2b : W.cell? ⟨k2, b.toNat, none⟩ = some (.int .i64 (rd (ls 2) b)) := (HK.out.rc 2 HE2.out b HPb2.out.1 HPb2.out.2).1
      have rf2b : W.frozen? ⟨k2, b.toNat, none⟩ = false := (HK.out.rc 2 HE2.out b HPb2.out.1 HPb2.out.2).2
      clear x9 xr
      go_wp2
      go_still_tail 10, (by kernel_rfl)
      change wpList _ _ _ _ _ W.drew
      replace HK := am HK.out.drew
      generalize W.drew = W at HK ⊢
      try simp only [i64_w]
      clear i0 i1 i2 s10 r2b rf2b
      have r4a : W.cell? ⟨k4, a.toNat, none⟩ = some (.int .i64 (rd (ls 4) a)) := (HK.out.rc 4 HE4.out a HPa4.out.1 HPa4.out.2).1
      have rf4a : W.frozen? ⟨k4, a.toNat, none⟩ = false := (HK.out.rc 4 HE4.out a HPa4.out.1 HPa4.out.2).2
      go_wp2_with (first | ((with_reducible refine gs 3 183 ?_); refine sv (W.setCell ⟨k4, (a : Int).toNat, none⟩ (.int .i64 (rd (ls 2) b))) ?_; intro W hw; clear r4a rf4a; replace HK := am (show KS w W w.heap.size b4 b6 b7 b8 b9 P ⟨8, a, b, c⟩ nc g g (st (st ls 0 0 (wrap64 (rd (ls 0) 0 + 1))) 4 a (rd (ls 2) b)) vR vQ tr ⟨0, rd (ls 0) 0, 8, 0, 0, 0⟩ by rw [hw]; exact KS.put HK.out 4 HE4.out a (rd (ls 2) b)); clear hw; have i1 := HK.out.i1; obtain ⟨e3, ef3⟩ := HK.out.e3) | ((with_reducible refine gs 3 186 ?_); refine sv (W.setCell ⟨b7, 3, none⟩ (.int .i64 (a))) ?_; intro W hw; clear i1 e3 ef3; replace HK := am (show KS w W w.heap.size b4 b6 b7 b8 b9 P ⟨8, a, b, c⟩ nc g g (st (st ls 0 0 (wrap64 (rd (ls 0) 0 + 1))) 4 a (rd (ls 2) b)) vR vQ tr ⟨0, rd (ls 0) 0, 8, (a), 0, 0⟩ by rw [hw]; exact KS.evs HK.out 3 (.int .i64 (a)) rfl); clear hw; have i2 := HK.out.i2; have r2b : W.cell? ⟨k2, b.toNat, none⟩ = some (.int .i64 (rd (ls 2) b)) := (HK.out.rc 2 HE2.out b HPb2.out.1 HPb2.out.2).1; have rf2b : W.frozen? ⟨k2, b.toNat, none⟩ = false := (HK.out.rc 2 HE2.out b HPb2.out.1 HPb2.out.2).2; obtain ⟨e4, ef4⟩ := HK.out.e4) | ((with_reducible refine gs 3 192 ?_); refine sv (W.setCell ⟨b7, 4, none⟩ (.int .i64 (rd (ls 2) b))) ?_; intro W hw; clear i2 r2b rf2b e4 ef4; replace HK := am (show KS w W w.heap.size b4 b6 b7 b8 b9 P ⟨8, a, b, c⟩ nc g g (st (st ls 0 0 (wrap64 (rd (ls 0) 0 + 1))) 4 a (rd (ls 2) b)) vR vQ tr ⟨0, rd (ls 0) 0, 8, (a), (rd (ls 2) b), 0⟩ by rw [hw]; exact KS.evs HK.out 4 (.int .i64 (rd (ls 2) b)) rfl); clear hw))
      have HONE : Aside0 ((sCells P g vR vQ tr).all (·.oneCell') = true) := ⟨by rw [← show sCells P g vR vQ tr = sCells P g vR vQ tr from rfl]; exact sOne _ (HK.out.ws.rs (Seen.refl g _)) HC.out HT.out⟩
      replace HK := am HK.out.drew
      refine sa 5 (fun w' => w'.heap[b4]? = some (.cells (sCells P g vR vQ tr) 70 (0, 0)) ∧ w'.heap[b7]? = some (.cells (eCells ⟨0, rd (ls 0) 0, 8, (a), (rd (ls 2) b), 0⟩) 75 (0, 0))) tailT40 (⟨HK.out.x4, HK.out.x7⟩) [3] (fun HT_ hHeld => ?_)
      generalize W.drew = W at hHeld HK ⊢
      refine ta 0 233 HT_ hHeld (v := (.agg (sCells P g vR vQ tr))) ?_ ?_
      · exact fun w' hS' => exec_load_row 70 (.tmp 7) rfl b4 rfl 70 (sCells P g vR vQ tr) (0, 0) _ hS'.1 Try.underlying70 rfl size70
      refine ta 1 234 HT_ hHeld (v := (.agg (eCells ⟨0, rd (ls 0) 0, 8, (a), (rd (ls 2) b), 0⟩))) ?_ ?_
      · exact fun w' hS' => exec_load_row 75 (.tmp 9) rfl b7 rfl 75 (eCells ⟨0, rd (ls 0) 0, 8, (a), (rd (ls 2) b), 0⟩) (0, 0) _ hS'.2 Try.underlying75 rfl size75
      refine on 2 (none) HT_ (fun K hK => ?_)
      refine skip_ (w1 := W.setRow b8 (sCells P g vR vQ tr)) (by rfl) rfl (exec_store_row 70 (.tmp 4) (.tmp 233) rfl b8 (sCells P g vR vQ tr) rfl rfl 70 _ HK.out.x8 size70 rfl HONE.out) ?_
      refine hK.out _ _ (⟨(setRow_other _ _ _ _ HK.out.n48).trans hHeld.1, (setRow_other _ _ _ _ (blk_ne HK.out.x7 HK.out.x8 (by decide))).trans hHeld.2⟩) (fun hHeld => ?_)
      clear hK K
      refine la 3 (none) HT_ (fun K hK => ?_)
      refine skip_ (w1 := (W.setRow b8 (sCells P g vR vQ tr)).setRow b9 (eCells ⟨0, rd (ls 0) 0, 8, (a), (rd (ls 2) b), 0⟩)) (by rfl) rfl (exec_store_row 75 (.tmp 5) (.tmp 234) rfl b9 (eCells ⟨0, rd (ls 0) 0, 8, (a), (rd (ls 2) b), 0⟩) rfl rfl 75 _ ((setRow_other _ _ _ _ (Ne.symm HK.out.n89)).trans HK.out.x9) size75 rfl (eOne _)) ?_
      refine hK.out _ _ ?_
      clear hK K
      refine pu 4 6 HT_ ?_
      refine dn HT_ ?_
      go_wp2
      obtain ⟨f1, f2, f3⟩ := KS.fin HK.out rfl (Seen.refl g _) rfl
      refine results3 rfl b8 b9 _ _ true f2 f3 ?hp ?hq ?hr ?hd (by rw [HFE.out]; exact f1)
      case hp => rfl
      case hq => rfl
      case hr => rfl
      case hd => rfl
  by_cases c9 : o = 9
  · as_aux_lemma =>
      subst c9
      have HFE : Aside0 (FT = (up (st ls 0 0 (wrap64 (rd (ls 0) 0 + 1))) 11 (ls 11 ++ [(rd (ls 2) a)]), tr)) := ⟨by rw [HFT.out]; rfl⟩
      obtain ⟨q0, q1⟩ := HOK.out.a2 (by simp)
      rw [H2.out] at q1
      replace q0 : 0 ≤ a := q0
      replace q1 : a < (4 : Int) := q1
      have HPa2 : Aside0 (0 ≤ a ∧ a < ((4 : Nat) : Int)) := ⟨⟨q0, q1⟩⟩
      have ta0 := eq_true q0
      have ta21 := eq_true q1
      clear q0 q1
      have i0 := HK.out.i0
      clear x9 xr
      go_wp2
      clear i0
      obtain ⟨A11, c11, e11⟩ := row_len (HK.out.ws.ms.row 11)
      have HE11 : Aside0 (g 11 = .slice A11 (ls 11).length c11) := ⟨e11⟩
      clear e11
      have HKw := HK
      replace HK := am HK.out.drew
      refine sa 11 (fun w' => Below W.heap.size W w') stepT31 (below_drew (Below.refl _ _)) [8, 10] (fun HT_ hHeld => ?_)
      clear HK
      have HK := HKw
      clear HKw
      refine pu 0 195 HT_ ?_
      refine ta 1 196 HT_ hHeld (v := ?_) ?_ ?_; rotate_left
      · intro w' hS'; have y_ := Box.at17 (blk_below HK.out.x4 hS'); rw [HE11.out] at y_; go_simp; with_reducible rfl
      refine pu 2 197 HT_ ?_
      refine pu 3 198 HT_ ?_
      refine ta 4 199 HT_ hHeld (v := ?_) ?_ ?_; rotate_left
      · intro w' hS'; have y_ := (HK.out.below hS').i1; go_simp; with_reducible rfl
      refine pu 5 200 HT_ ?_
      refine ta 6 201 HT_ hHeld (v := ?_) ?_ ?_; rotate_left
      · intro w' hS'; have y_ : w'.cell? ⟨k2, a.toNat, none⟩ = some (.int .i64 (rd (ls 2) a)) := ((HK.out.below hS').rc 2 HE2.out a HPa2.out.1 HPa2.out.2).1; go_simp; with_reducible rfl
      refine on 7 (some 202) HT_ (fun K hK => ?_)
      refine Kd.R_lit_step (Kd.int .i64) (w0 := W.drew) W.drew.heap.size 3 (by rfl) (N := 202) rfl (xs := [(rd (ls 2) a)]) (inner := [.int .i64 (rd (ls 2) a)]) (ok := fun _ => True) (okp := fun _ => False) ?hr (Kd.reps_scalar _) (fun _ h => h.elim) trivial (Below.refl _ _) (Nat.le_refl _) (by simp) ?_
      case hr => go_simp; try rfl
      intro vl w3 hl hb3 _ _
      obtain ⟨Al, cl, el⟩ := Kd.R_slice hl
      subst el
      have HL3 := am (Kd.R_reads' hl).2.2
      have hb13 := below_step hHeld hb3
      have HK3 := am (HK.out.below hb13)
      clear hl hb3
      refine hK.out _ _ (hb13) (fun hHeld => ?_)
      clear hK K
      refine nm 202 ?_
      clear hb13
      refine la 8 (some 203) HT_ (fun K hK => ?_)
      have hlo3 : w.heap.size ≤ w3.heap.size := Nat.le_trans HK3.out.l4 (Nat.le_of_lt (blk_lt HK3.out.x4))
      have hr11 : Row w3 w.heap.size (g 11) (ls 11) := HK3.out.ws.ms.row 11
      refine Kd.R_append_rows_step (Kd.int .i64) (w0 := w) w.heap.size (by rfl) (.tmp 196) (.tmp 202) 23 3 (.int .i64 0) 8 rfl Try.underlying23 info3 rfl (by decide) (by omega) (.slice A11 (ls 11).length c11) (ls 11) [(rd (ls 2) a)] _ _ _ (fun _ => True) (fun _ => False) rfl rfl (by rw [← HE11.out]; exact Kd.R_mono hr11 (fun _ _ => trivial)) HL3.out (fun _ _ h => h) (fun _ h => h.elim) (fun _ _ => trivial) HK3.out.be hlo3 (by have := HLL.out 11; simp only [List.length_cons, List.length_nil]; omega) ?_
      intro vn w4 hap _ hg4 hat
      rw [← HE11.out] at hg4 hat
      obtain ⟨An, cn, en⟩ := Kd.R_slice hap
      subst en
      have HAP := am hap
      have HG4 := am hg4
      have HAT := am hat
      have H4b := am (show Box w4 b4 P g vR vQ tr from blk_grown HK3.out.x4 hg4 (Kd.R_ne hr11 HK3.out.x4 (by decide)))
      clear hap hg4 hat hlo3 hr11
      refine hK.out _ _ ?_
      clear hK K
      refine nm 203 ?_
      refine pu 9 204 HT_ ?_
      refine la 10 (none) HT_ (fun K hK => ?_)
      have y_ := Box.at17 H4b.out
      have z_ := Box.fr H4b.out 17
      rw [HE11.out] at y_
      refine skip_ (w1 := (w4.setCell ⟨b4, 17, none⟩ (.slice An (ls 11 ++ [(rd (ls 2) a)]).length cn))) (by rfl) rfl ?hr ?_
      case hr => go_simp; try rfl
      clear y_ z_
      obtain ⟨w5, hw5⟩ : ∃ w5, w5 = w4.setCell ⟨b4, 17, none⟩ (.slice An (ls 11 ++ [(rd (ls 2) a)]).length cn) := ⟨_, rfl⟩
      have HK5 := am (show KS w w5 w.heap.size b4 b6 b7 b8 b9 P ⟨9, a, b, c⟩ nc (up g 11 (.slice An (ls 11 ++ [(rd (ls 2) a)]).length cn)) (up g 11 (.slice An (ls 11 ++ [(rd (ls 2) a)]).length cn)) (up (st ls 0 0 (wrap64 (rd (ls 0) 0 + 1))) 11 (ls 11 ++ [(rd (ls 2) a)])) vR vQ tr ⟨0, rd (ls 0) 0, 9, 0, 0, 0⟩ by rw [hw5]; exact KS.told HK3.out HAP.out HG4.out HAT.out)
      rw [← hw5]
      clear hw5
      refine hK.out _ _ ?_
      clear hK K
      refine dn HT_ ?_
      clear HK
      have HK := HK5
      clear HK5 HK3 HAP HG4 HAT H4b HL3 hHeld
      generalize w5 = W at HK ⊢
      have i1 := HK.out.i1
      have r2a : W.cell? ⟨k2, a.toNat, none⟩ = some (.int .i64 (rd (ls 2) a)) := (HK.out.rc 2 HE2.out a HPa2.out.1 HPa2.out.2).1
      have rf2a : W.frozen? ⟨k2, a.toNat, none⟩ = false := (HK.out.rc 2 HE2.out a HPa2.out.1 HPa2.out.2).2
      obtain ⟨e4, ef4⟩ := HK.out.e4
      go_wp2_with (((with_reducible refine gs 3 210 ?_); refine sv (W.setCell ⟨b7, 4, none⟩ (.int .i64 ((rd (ls 2) a)))) ?_; intro W hw; clear i1 r2a rf2a e4 ef4; replace HK := am (show KS w W w.heap.size b4 b6 b7 b8 b9 P ⟨9, a, b, c⟩ nc (up g 11 (.slice An (ls 11 ++ [(rd (ls 2) a)]).length cn)) (up g 11 (.slice An (ls 11 ++ [(rd (ls 2) a)]).length cn)) (up (st ls 0 0 (wrap64 (rd (ls 0) 0 + 1))) 11 (ls 11 ++ [(rd (ls 2) a)])) vR vQ tr ⟨0, rd (ls 0) 0, 9, 0, ((rd (ls 2) a)), 0⟩ by rw [hw]; exact KS.evs HK.out 4 (.int .i64 ((rd (ls 2) a))) rfl); clear hw))
      have HONE : Aside0 ((sCells P (up g 11 (.slice An (ls 11 ++ [(rd (ls 2) a)]).length cn)) vR vQ tr).all (·.oneCell') = true) := ⟨by rw [← show sCells P (up g 11 (.slice An (ls 11 ++ [(rd (ls 2) a)]).length cn)) vR vQ tr = sCells P (up g 11 (.slice An (ls 11 ++ [(rd (ls 2) a)]).length cn)) vR vQ tr from rfl]; exact sOne _ (HK.out.ws.rs (Seen.refl (up g 11 (.slice An (ls 11 ++ [(rd (ls 2) a)]).length cn)) _)) HC.out HT.out⟩
      replace HK := am HK.out.drew
      refine sa 5 (fun w' => w'.heap[b4]? = some (.cells (sCells P (up g 11 (.slice An (ls 11 ++ [(rd (ls 2) a)]).length cn)) vR vQ tr) 70 (0, 0)) ∧ w'.heap[b7]? = some (.cells (eCells ⟨0, rd (ls 0) 0, 9, 0, ((rd (ls 2) a)), 0⟩) 75 (0, 0))) tailT40 (⟨HK.out.x4, HK.out.x7⟩) [3] (fun HT_ hHeld => ?_)
      generalize W.drew = W at hHeld HK ⊢
      refine ta 0 233 HT_ hHeld (v := (.agg (sCells P (up g 11 (.slice An (ls 11 ++ [(rd (ls 2) a)]).length cn)) vR vQ tr))) ?_ ?_
      · exact fun w' hS' => exec_load_row 70 (.tmp 7) rfl b4 rfl 70 (sCells P (up g 11 (.slice An (ls 11 ++ [(rd (ls 2) a)]).length cn)) vR vQ tr) (0, 0) _ hS'.1 Try.underlying70 rfl size70
      refine ta 1 234 HT_ hHeld (v := (.agg (eCells ⟨0, rd (ls 0) 0, 9, 0, ((rd (ls 2) a)), 0⟩))) ?_ ?_
      · exact fun w' hS' => exec_load_row 75 (.tmp 9) rfl b7 rfl 75 (eCells ⟨0, rd (ls 0) 0, 9, 0, ((rd (ls 2) a)), 0⟩) (0, 0) _ hS'.2 Try.underlying75 rfl size75
      refine on 2 (none) HT_ (fun K hK => ?_)
      refine skip_ (w1 := W.setRow b8 (sCells P (up g 11 (.slice An (ls 11 ++ [(rd (ls 2) a)]).length cn)) vR vQ tr)) (by rfl) rfl (exec_store_row 70 (.tmp 4) (.tmp 233) rfl b8 (sCells P (up g 11 (.slice An (ls 11 ++ [(rd (ls 2) a)]).length cn)) vR vQ tr) rfl rfl 70 _ HK.out.x8 size70 rfl HONE.out) ?_
      refine hK.out _ _ (⟨(setRow_other _ _ _ _ HK.out.n48).trans hHeld.1, (setRow_other _ _ _ _ (blk_ne HK.out.x7 HK.out.x8 (by decide))).trans hHeld.2⟩) (fun hHeld => ?_)
      clear hK K
      refine la 3 (none) HT_ (fun K hK => ?_)
      refine skip_ (w1 := (W.setRow b8 (sCells P (up g 11 (.slice An (ls 11 ++ [(rd (ls 2) a)]).length cn)) vR vQ tr)).setRow b9 (eCells ⟨0, rd (ls 0) 0, 9, 0, ((rd (ls 2) a)), 0⟩)) (by rfl) rfl (exec_store_row 75 (.tmp 5) (.tmp 234) rfl b9 (eCells ⟨0, rd (ls 0) 0, 9, 0, ((rd (ls 2) a)), 0⟩) rfl rfl 75 _ ((setRow_other _ _ _ _ (Ne.symm HK.out.n89)).trans HK.out.x9) size75 rfl (eOne _)) ?_
      refine hK.out _ _ ?_
      clear hK K
      refine pu 4 6 HT_ ?_
      refine dn HT_ ?_
      go_wp2
      obtain ⟨f1, f2, f3⟩ := KS.fin HK.out rfl (Seen.refl (up g 11 (.slice An (ls 11 ++ [(rd (ls 2) a)]).length cn)) _) rfl
      refine results3 rfl b8 b9 _ _ true f2 f3 ?hp ?hq ?hr ?hd (by rw [HFE.out]; exact f1)
      case hp => rfl
      case hq => rfl
      case hr => rfl
      case hd => rfl
  by_cases c10 : o = 10
  · as_aux_lemma =>
      subst c10
      have HFE : Aside0 (FT = (st (st ls 0 0 (wrap64 (rd (ls 0) 0 + 1))) 0 0 a, tr)) := ⟨by rw [HFT.out]; rfl⟩
      have i0 := HK.out.i0
      have i1 := HK.out.i1
      have s7 := Box.at7 HK.out.x4
      rw [HE0.out] at s7
      have r00 : W.cell? ⟨k0, 0, none⟩ = some (.int .i64 (rd ((st ls 0 0 (wrap64 (rd (ls 0) 0 + 1))) 0) 0)) := (HK.out.rc 0 HE0.out 0 (Int.le_refl _) (by decide)).1
      have rf00 : W.frozen? ⟨k0, 0, none⟩ = false := (HK.out.rc 0 HE0.out 0 (Int.le_refl _) (by decide)).2
      clear x9 xr
      go_wp2_with (first | ((with_reducible refine gs 3 218 ?_); refine sv (W.setCell ⟨k0, (0 : Int).toNat, none⟩ (.int .i64 (a))) ?_; intro W hw; clear r00 rf00 i0 i1 s7; replace HK := am (show KS w W w.heap.size b4 b6 b7 b8 b9 P ⟨10, a, b, c⟩ nc g g (st (st ls 0 0 (wrap64 (rd (ls 0) 0 + 1))) 0 0 (a)) vR vQ tr ⟨0, rd (ls 0) 0, 10, 0, 0, 0⟩ by rw [hw]; exact KS.put HK.out 0 HE0.out 0 (a)); clear hw))
      have HONE : Aside0 ((sCells P g vR vQ tr).all (·.oneCell') = true) := ⟨by rw [← show sCells P g vR vQ tr = sCells P g vR vQ tr from rfl]; exact sOne _ (HK.out.ws.rs (Seen.refl g _)) HC.out HT.out⟩
      replace HK := am HK.out.drew
      refine sa 5 (fun w' => w'.heap[b4]? = some (.cells (sCells P g vR vQ tr) 70 (0, 0)) ∧ w'.heap[b7]? = some (.cells (eCells ⟨0, rd (ls 0) 0, 10, 0, 0, 0⟩) 75 (0, 0))) tailT40 (⟨HK.out.x4, HK.out.x7⟩) [3] (fun HT_ hHeld => ?_)
      generalize W.drew = W at hHeld HK ⊢
      refine ta 0 233 HT_ hHeld (v := (.agg (sCells P g vR vQ tr))) ?_ ?_
      · exact fun w' hS' => exec_load_row 70 (.tmp 7) rfl b4 rfl 70 (sCells P g vR vQ tr) (0, 0) _ hS'.1 Try.underlying70 rfl size70
      refine ta 1 234 HT_ hHeld (v := (.agg (eCells ⟨0, rd (ls 0) 0, 10, 0, 0, 0⟩))) ?_ ?_
      · exact fun w' hS' => exec_load_row 75 (.tmp 9) rfl b7 rfl 75 (eCells ⟨0, rd (ls 0) 0, 10, 0, 0, 0⟩) (0, 0) _ hS'.2 Try.underlying75 rfl size75
      refine on 2 (none) HT_ (fun K hK => ?_)
      refine skip_ (w1 := W.setRow b8 (sCells P g vR vQ tr)) (by rfl) rfl (exec_store_row 70 (.tmp 4) (.tmp 233) rfl b8 (sCells P g vR vQ tr) rfl rfl 70 _ HK.out.x8 size70 rfl HONE.out) ?_
      refine hK.out _ _ (⟨(setRow_other _ _ _ _ HK.out.n48).trans hHeld.1, (setRow_other _ _ _ _ (blk_ne HK.out.x7 HK.out.x8 (by decide))).trans hHeld.2⟩) (fun hHeld => ?_)
      clear hK K
      refine la 3 (none) HT_ (fun K hK => ?_)
      refine skip_ (w1 := (W.setRow b8 (sCells P g vR vQ tr)).setRow b9 (eCells ⟨0, rd (ls 0) 0, 10, 0, 0, 0⟩)) (by rfl) rfl (exec_store_row 75 (.tmp 5) (.tmp 234) rfl b9 (eCells ⟨0, rd (ls 0) 0, 10, 0, 0, 0⟩) rfl rfl 75 _ ((setRow_other _ _ _ _ (Ne.symm HK.out.n89)).trans HK.out.x9) size75 rfl (eOne _)) ?_
      refine hK.out _ _ ?_
      clear hK K
      refine pu 4 6 HT_ ?_
      refine dn HT_ ?_
      go_wp2
      obtain ⟨f1, f2, f3⟩ := KS.fin HK.out rfl (Seen.refl g _) rfl
      refine results3 rfl b8 b9 _ _ true f2 f3 ?hp ?hq ?hr ?hd (by rw [HFE.out]; exact f1)
      case hp => rfl
      case hq => rfl
      case hr => rfl
      case hd => rfl
  by_cases c11 : o = 11
  · subst c11
    by_cases hz : rd (ls 2) a = 0
    · as_aux_lemma =>
        have HFE : Aside0 (FT = (st (st ls 0 0 (wrap64 (rd (ls 0) 0 + 1))) 0 0 b, tr)) := ⟨by rw [HFT.out, show stepF ls tr ⟨11, a, b, c⟩ = (if rd (ls 2) a = 0 then (st (st ls 0 0 (wrap64 (rd (ls 0) 0 + 1))) 0 0 b, tr) else (st ls 0 0 (wrap64 (rd (ls 0) 0 + 1)), tr)) from rfl, if_pos hz]⟩
        obtain ⟨q0, q1⟩ := HOK.out.a2 (by simp)
        rw [H2.out] at q1
        replace q0 : 0 ≤ a := q0
        replace q1 : a < (4 : Int) := q1
        have HPa2 : Aside0 (0 ≤ a ∧ a < ((4 : Nat) : Int)) := ⟨⟨q0, q1⟩⟩
        have ta0 := eq_true q0
        have ta21 := eq_true q1
        clear q0 q1
        have i0 := HK.out.i0
        have i1 := HK.out.i1
        have r2a : W.cell? ⟨k2, a.toNat, none⟩ = some (.int .i64 (rd (ls 2) a)) := (HK.out.rc 2 HE2.out a HPa2.out.1 HPa2.out.2).1
        have rf2a : W.frozen? ⟨k2, a.toNat, none⟩ = false := (HK.out.rc 2 HE2.out a HPa2.out.1 HPa2.out.2).2
        have i2 := HK.out.i2
        have s7 := Box.at7 HK.out.x4
        rw [HE0.out] at s7
        have r00 : W.cell? ⟨k0, 0, none⟩ = some (.int .i64 (rd ((st ls 0 0 (wrap64 (rd (ls 0) 0 + 1))) 0) 0)) := (HK.out.rc 0 HE0.out 0 (Int.le_refl _) (by decide)).1
        have rf00 : W.frozen? ⟨k0, 0, none⟩ = false := (HK.out.rc 0 HE0.out 0 (Int.le_refl _) (by decide)).2
        clear x9 xr
        rw [hz] at r2a
        go_wp2_with (first | ((with_reducible refine gs 3 232 ?_); refine sv (W.setCell ⟨k0, (0 : Int).toNat, none⟩ (.int .i64 (b))) ?_; intro W hw; clear r00 rf00 i0 i1 i2 s7 r2a rf2a; replace HK := am (show KS w W w.heap.size b4 b6 b7 b8 b9 P ⟨11, a, b, c⟩ nc g g (st (st ls 0 0 (wrap64 (rd (ls 0) 0 + 1))) 0 0 (b)) vR vQ tr ⟨0, rd (ls 0) 0, 11, 0, 0, 0⟩ by rw [hw]; exact KS.put HK.out 0 HE0.out 0 (b)); clear hw))
        have HONE : Aside0 ((sCells P g vR vQ tr).all (·.oneCell') = true) := ⟨by rw [← show sCells P g vR vQ tr = sCells P g vR vQ tr from rfl]; exact sOne _ (HK.out.ws.rs (Seen.refl g _)) HC.out HT.out⟩
        replace HK := am HK.out.drew
        refine sa 5 (fun w' => w'.heap[b4]? = some (.cells (sCells P g vR vQ tr) 70 (0, 0)) ∧ w'.heap[b7]? = some (.cells (eCells ⟨0, rd (ls 0) 0, 11, 0, 0, 0⟩) 75 (0, 0))) tailT40 (⟨HK.out.x4, HK.out.x7⟩) [3] (fun HT_ hHeld => ?_)
        generalize W.drew = W at hHeld HK ⊢
        refine ta 0 233 HT_ hHeld (v := (.agg (sCells P g vR vQ tr))) ?_ ?_
        · exact fun w' hS' => exec_load_row 70 (.tmp 7) rfl b4 rfl 70 (sCells P g vR vQ tr) (0, 0) _ hS'.1 Try.underlying70 rfl size70
        refine ta 1 234 HT_ hHeld (v := (.agg (eCells ⟨0, rd (ls 0) 0, 11, 0, 0, 0⟩))) ?_ ?_
        · exact fun w' hS' => exec_load_row 75 (.tmp 9) rfl b7 rfl 75 (eCells ⟨0, rd (ls 0) 0, 11, 0, 0, 0⟩) (0, 0) _ hS'.2 Try.underlying75 rfl size75
        refine on 2 (none) HT_ (fun K hK => ?_)
        refine skip_ (w1 := W.setRow b8 (sCells P g vR vQ tr)) (by rfl) rfl (exec_store_row 70 (.tmp 4) (.tmp 233) rfl b8 (sCells P g vR vQ tr) rfl rfl 70 _ HK.out.x8 size70 rfl HONE.out) ?_
        refine hK.out _ _ (⟨(setRow_other _ _ _ _ HK.out.n48).trans hHeld.1, (setRow_other _ _ _ _ (blk_ne HK.out.x7 HK.out.x8 (by decide))).trans hHeld.2⟩) (fun hHeld => ?_)
        clear hK K
        refine la 3 (none) HT_ (fun K hK => ?_)
        refine skip_ (w1 := (W.setRow b8 (sCells P g vR vQ tr)).setRow b9 (eCells ⟨0, rd (ls 0) 0, 11, 0, 0, 0⟩)) (by rfl) rfl (exec_store_row 75 (.tmp 5) (.tmp 234) rfl b9 (eCells ⟨0, rd (ls 0) 0, 11, 0, 0, 0⟩) rfl rfl 75 _ ((setRow_other _ _ _ _ (Ne.symm HK.out.n89)).trans HK.out.x9) size75 rfl (eOne _)) ?_
        refine hK.out _ _ ?_
        clear hK K
        refine pu 4 6 HT_ ?_
        refine dn HT_ ?_
        go_wp2
        obtain ⟨f1, f2, f3⟩ := KS.fin HK.out rfl (Seen.refl g _) rfl
        refine results3 rfl b8 b9 _ _ true f2 f3 ?hp ?hq ?hr ?hd (by rw [HFE.out]; exact f1)
        case hp => rfl
        case hq => rfl
        case hr => rfl
        case hd => rfl
    · as_aux_lemma =>
        have HFE : Aside0 (FT = (st ls 0 0 (wrap64 (rd (ls 0) 0 + 1)), tr)) := ⟨by rw [HFT.out, show stepF ls tr ⟨11, a, b, c⟩ = (if rd (ls 2) a = 0 then (st (st ls 0 0 (wrap64 (rd (ls 0) 0 + 1))) 0 0 b, tr) else (st ls 0 0 (wrap64 (rd (ls 0) 0 + 1)), tr)) from rfl, if_neg hz]⟩
        obtain ⟨q0, q1⟩ := HOK.out.a2 (by simp)
        rw [H2.out] at q1
        replace q0 : 0 ≤ a := q0
        replace q1 : a < (4 : Int) := q1
        have HPa2 : Aside0 (0 ≤ a ∧ a < ((4 : Nat) : Int)) := ⟨⟨q0, q1⟩⟩
        have ta0 := eq_true q0
        have ta21 := eq_true q1
        clear q0 q1
        have i0 := HK.out.i0
        have i1 := HK.out.i1
        have r2a : W.cell? ⟨k2, a.toNat, none⟩ = some (.int .i64 (rd (ls 2) a)) := (HK.out.rc 2 HE2.out a HPa2.out.1 HPa2.out.2).1
        have rf2a : W.frozen? ⟨k2, a.toNat, none⟩ = false := (HK.out.rc 2 HE2.out a HPa2.out.1 HPa2.out.2).2
        clear x9 xr
        have z1 : (rd (ls 2) a == 0) = false := beq_eq_false_iff_ne.2 hz
        clear hz
        go_wp2
        clear i0 i1 r2a rf2a
        have HONE : Aside0 ((sCells P g vR vQ tr).all (·.oneCell') = true) := ⟨by rw [← show sCells P g vR vQ tr = sCells P g vR vQ tr from rfl]; exact sOne _ (HK.out.ws.rs (Seen.refl g _)) HC.out HT.out⟩
        replace HK := am HK.out.drew
        refine sa 5 (fun w' => w'.heap[b4]? = some (.cells (sCells P g vR vQ tr) 70 (0, 0)) ∧ w'.heap[b7]? = some (.cells (eCells ⟨0, rd (ls 0) 0, 11, 0, 0, 0⟩) 75 (0, 0))) tailT40 (⟨HK.out.x4, HK.out.x7⟩) [3] (fun HT_ hHeld => ?_)
        generalize W.drew = W at hHeld HK ⊢
        refine ta 0 233 HT_ hHeld (v := (.agg (sCells P g vR vQ tr))) ?_ ?_
        · exact fun w' hS' => exec_load_row 70 (.tmp 7) rfl b4 rfl 70 (sCells P g vR vQ tr) (0, 0) _ hS'.1 Try.underlying70 rfl size70
        refine ta 1 234 HT_ hHeld (v := (.agg (eCells ⟨0, rd (ls 0) 0, 11, 0, 0, 0⟩))) ?_ ?_
        · exact fun w' hS' => exec_load_row 75 (.tmp 9) rfl b7 rfl 75 (eCells ⟨0, rd (ls 0) 0, 11, 0, 0, 0⟩) (0, 0) _ hS'.2 Try.underlying75 rfl size75
        refine on 2 (none) HT_ (fun K hK => ?_)
        refine skip_ (w1 := W.setRow b8 (sCells P g vR vQ tr)) (by rfl) rfl (exec_store_row 70 (.tmp 4) (.tmp 233) rfl b8 (sCells P g vR vQ tr) rfl rfl 70 _ HK.out.x8 size70 rfl HONE.out) ?_
        refine hK.out _ _ (⟨(setRow_other _ _ _ _ HK.out.n48).trans hHeld.1, (setRow_other _ _ _ _ (blk_ne HK.out.x7 HK.out.x8 (by decide))).trans hHeld.2⟩) (fun hHeld => ?_)
        clear hK K
        refine la 3 (none) HT_ (fun K hK => ?_)
        refine skip_ (w1 := (W.setRow b8 (sCells P g vR vQ tr)).setRow b9 (eCells ⟨0, rd (ls 0) 0, 11, 0, 0, 0⟩)) (by rfl) rfl (exec_store_row 75 (.tmp 5) (.tmp 234) rfl b9 (eCells ⟨0, rd (ls 0) 0, 11, 0, 0, 0⟩) rfl rfl 75 _ ((setRow_other _ _ _ _ (Ne.symm HK.out.n89)).trans HK.out.x9) size75 rfl (eOne _)) ?_
        refine hK.out _ _ ?_
        clear hK K
        refine pu 4 6 HT_ ?_
        refine dn HT_ ?_
        go_wp2
        obtain ⟨f1, f2, f3⟩ := KS.fin HK.out rfl (Seen.refl g _) rfl
        refine results3 rfl b8 b9 _ _ true f2 f3 ?hp ?hq ?hr ?hd (by rw [HFE.out]; exact f1)
        case hp => rfl
        case hq => rfl
        case hr => rfl
        case hd => rfl
  as_aux_lemma =>
    have HFE : Aside0 (FT = syncF (st ls 0 0 (wrap64 (rd (ls 0) 0 + 1))) tr ⟨o, a, b, c⟩) := ⟨by rw [HFT.out]; unfold stepF; simp only [c1, c2, c3, c4, c5, c6, c7, c8, c9, c10, c11, if_false]⟩
    have n1 : (o == 1) = false := beq_eq_false_iff_ne.2 c1
    have n2 : (o == 2) = false := beq_eq_false_iff_ne.2 c2
    have n3 : (o == 3) = false := beq_eq_false_iff_ne.2 c3
    have n4 : (o == 4) = false := beq_eq_false_iff_ne.2 c4
    have n5 : (o == 5) = false := beq_eq_false_iff_ne.2 c5
    have n6 : (o == 6) = false := beq_eq_false_iff_ne.2 c6
    have n7 : (o == 7) = false := beq_eq_false_iff_ne.2 c7
    have n8 : (o == 8) = false := beq_eq_false_iff_ne.2 c8
    have n9 : (o == 9) = false := beq_eq_false_iff_ne.2 c9
    have n10 : (o == 10) = false := beq_eq_false_iff_ne.2 c10
    have n11 : (o == 11) = false := beq_eq_false_iff_ne.2 c11
    have HOP : Aside0 (o = 0 ∨ 12 ≤ o) := ⟨by have : 0 ≤ o := HOK.out.o0; omega⟩
    clear c1 c2 c3 c4 c5 c6 c7 c8 c9 c10 c11
    have i0 : W.cell? ⟨b6, 0, none⟩ = some (.int .u8 o) := HK.out.i0
    clear x9 xr
    go_wp2_with (first | ((with_reducible refine gd 55 ?_); refine wpList_load_row rfl 70 (.tmp 7) rfl b4 rfl 70 (sCells P g vR vQ tr) (0, 0) _ HK.out.x4 Try.underlying70 rfl size70 ?_) | ((with_reducible refine gd 57 ?_); refine wpList_load_row rfl 33 (.tmp 8) rfl b6 rfl 33 (iCells ⟨o, a, b, c⟩) (0, 0) _ HK.out.x6 Try.underlying33 rfl size33 ?_) | ((with_reducible refine gd 58 ?_); refine wpList_load_row rfl 75 (.tmp 9) rfl b7 rfl 75 (eCells ⟨0, rd (ls 0) 0, o, 0, 0, 0⟩) (0, 0) _ HK.out.x7 Try.underlying75 rfl size75 ?_) | (go_at_call 55; refine (sync_any P g (st ls 0 0 (wrap64 (rd (ls 0) 0 + 1))) vR vQ nc code.length tr ⟨o, a, b, c⟩ (rd (ls 0) 0) o 0 _ w.heap.size HK.out.ws (Nat.le_trans HK.out.l4 (Nat.le_of_lt (blk_lt HK.out.x4))) (okI.at0 HOK.out HSI.out.h0) H2.out H8.out HC.out HT.out (len_at0 HLL.out) HOP.out).mono ?_; rintro e W2 ⟨g', f', lsO, vR', vQ', ev', rfl, ht, hw, hs, hb, hk⟩; have HX8 := am (hk _ _ _ HK.out.x8 (by decide) (by decide)); have HX9 := am (hk _ _ _ HK.out.x9 (by decide) (by decide)); have HF := am (ret_fin (P := P) (tr := (syncF (st ls 0 0 (wrap64 (rd (ls 0) 0 + 1))) tr ⟨o, a, b, c⟩).2) hw hs (HK.out.be.trans hb) (HK.out.kp.trans hk) HX8.out HX9.out HK.out.n89 HK.out.l8 HK.out.l9 HK.out.lo0 ht); have HO8 := am (sOne (P := P) (vR := vR') (vQ := vQ') (f := f') (syncF (st ls 0 0 (wrap64 (rd (ls 0) 0 + 1))) tr ⟨o, a, b, c⟩).2 (hw.rs hs) HC.out HT.out); clear ht hw hs hb hk) | ((with_reducible refine gs 70 4 ?_); refine store_row_event rfl 70 (.tmp 4) (.tmp 60) rfl b8 (sCells P f' vR' vQ' (syncF (st ls 0 0 (wrap64 (rd (ls 0) 0 + 1))) tr ⟨o, a, b, c⟩).2) rfl rfl 70 _ HX8.out size70 rfl HO8.out rfl ?_; intro W3 hw3; have HY9 := am (show W3.heap[b9]? = some (.cells zE 75 (0, 0)) by rw [hw3]; exact (setRow_other _ _ _ _ (Ne.symm HK.out.n89)).trans HX9.out); have HW3 := am hw3; clear hw3) | ((with_reducible refine gs 75 5 ?_); refine store_row_event rfl 75 (.tmp 5) (.tmp 61) rfl b9 (eCells ev') rfl rfl 75 _ HY9.out size75 rfl (eOne _) rfl ?_; intro W4 hw4; rw [HW3.out] at hw4; have HW4 := am hw4; clear hw4))
    obtain ⟨f1, f2, f3⟩ := HF.out
    rw [← HW4.out] at f1 f2 f3
    refine results3 rfl b8 b9 _ _ true f2 f3 ?hp ?hq ?hr ?hd (by rw [HFE.out]; exact f1)
    case hp => rfl
    case hq => rfl
    case hr => rfl
    case hd => rfl
end Go.Proofs.Yticdodbnjlnjlaa.P
