import Derived.StillTailTactics
import Derived.Test.YticdodbnjlnjlaaV1
namespace Go.Proofs.Yticdodbnjlnjlaa.P
open Go.RowKit Go.Proofs.YticdodbnjlnjlaaW.PrintWords Go.Proofs.YticdodbnjlnjlaaW.PrintLast Go.Proofs.YticdodbnjlnjlaaW.PrintMore
attribute [local go_sem] max2_int min2_int max_two min_two max_three min_three max_four min_four
attribute [local irreducible] Calls
set_option linter.unusedVariables false
set_option linter.unusedSimpArgs false
abbrev zCells : Array Value := #[.int .i64 0, .int .i64 0, .int .i64 0, .slice none 0 0, .int .i64 0, .int .i64 0, .slice none 0 0, .slice none 0 0, .slice none 0 0, .slice none 0 0, .slice none 0 0, .slice none 0 0, .slice none 0 0, .slice none 0 0, .slice none 0 0, .slice none 0 0, .slice none 0 0, .slice none 0 0, .int .i64 0]
def D9 (j : Nat) : Bool := ((((((((false || j == 0) || j == 1) || j == 4) || j == 5) || j == 6) || j == 8) || j == 9) || j == 10) || j == 11
theorem copyT15 : rtab .any (opsOf Try.f53 15) = (true, [([], []), ([0], [0]), ([], []), ([2], [2]), ([], []), ([3, 4], [3, 4]), ([5], [5]), ([6], [6]), ([7], [7]), ([1, 8, 7], [1, 8]), ([0, 1, 2, 3, 4, 5, 6, 7, 8, 9], []), ([10, 9, 9, 0, 1, 2, 3, 4, 5, 6, 7, 8, 9], [9, 10])]) := by kernel_rfl
theorem copyT20 : rtab .any (opsOf Try.f53 20) = (true, [([], []), ([0], [0]), ([], []), ([2], [2]), ([], []), ([3, 4], [3, 4]), ([5], [5]), ([6], [6]), ([7], [7]), ([1, 8, 7], [1, 8]), ([0, 1, 2, 3, 4, 5, 6, 7, 8, 9], []), ([10, 9, 9, 0, 1, 2, 3, 4, 5, 6, 7, 8, 9], [9, 10])]) := by kernel_rfl
theorem MS.grownOuter {w w1 : World} {lo : Nat} {f : Nat → Value} {ls : Nat → List Int} {v : Value} {qs : List (Option Addr × Nat × Nat)} (h : MS w lo f ls) (hO : Outer w lo v qs) (hg : w.grownBy w1 v.ownBlock) : MS w1 lo f ls :=
  h.move (fun j k hk hl => hg.block k hl (fun c => by
    obtain ⟨c1, h1⟩ := own_block (h.row j) hk
    obtain ⟨c2, h2⟩ := own_block hO c.symm
    exact blk_ne h1 h2 (by decide) rfl))
theorem sCells_up (P : PV) (g : Nat → Value) (j : Nat) (v vR vQ : Value) (tr : Int) (hj : j = 2 ∨ 12 ≤ j) : sCells P (up g j v) vR vQ tr = sCells P g vR vQ tr := by
  have e : ∀ k, k ≠ j → up g j v k = g k := fun k hk => up_ne g j v hk
  simp only [sCells, e 0 (by omega), e 1 (by omega), e 4 (by omega), e 5 (by omega), e 6 (by omega), e 8 (by omega), e 9 (by omega), e 10 (by omega), e 11 (by omega)]
/-- What a round of Copy's loops leaves: a row is copied, and stands behind the others. -/
theorem copy_round {wd w1 w2 w3 w4 w5 : World} {lo b1 b2 b3 : Nat} {P : PV} {f g : Nat → Value} {vR vQ v1 v2 y1 y2 : Value} {tr : Int} {ls : Nat → List Int} {D : Nat → Bool} {v vn vO : Value} {xs qO : List (Option Addr × Nat × Nat)} {x : Option Addr × Nat × Nat} {j c : Nat}
    (h13 : b1 ≠ b3) (h23 : b2 ≠ b3) (hge : lo ≤ b3) (hj : j = 2 ∨ 12 ≤ j)
    (hc : (v = v1 ∧ c = 9 ∧ y1 = vn ∧ y2 = v2) ∨ (v = v2 ∧ c = 13 ∧ y1 = v1 ∧ y2 = vn))
    (HX : Box wd b1 P f vR vQ tr) (HZ : wd.heap[b2]? = some (.cells zCells 70 (0, 0))) (HY : Box wd b3 P g v1 v2 tr) (HM : CM wd lo g ls D) (hlo : lo ≤ wd.heap.size) (HO : Outer wd lo v xs)
    (HOO : Outer wd lo vO qO) (hne : ∀ k, vO.ownBlock = some k → v.ownBlock ≠ some k)
    (hb1 : Below wd.heap.size wd w1) (hr : Row w2 w1.heap.size (encS x) (ls j)) (hb2 : Below w1.heap.size w1 w2) (hb3 : Below w2.heap.size w2 w3)
    (hap : Kd.R kS 23 w4 lo (fun _ => True) vn (xs ++ [x])) (hg : w3.grownBy w4 v.ownBlock) (hat : vn.ownBlock = v.ownBlock ∨ ∃ b, vn.ownBlock = some b ∧ w3.heap.size ≤ b)
    (hw : w5 = w4.setCell ⟨b3, c, none⟩ vn) :
    Box w5 b1 P f vR vQ tr ∧ w5.heap[b2]? = some (.cells zCells 70 (0, 0)) ∧ Box w5 b3 P (up g j (encS x)) y1 y2 tr ∧ CM w5 lo (up g j (encS x)) ls (fun q => D q || q == j) ∧ Outer w5 lo vn (xs ++ [x]) ∧ Outer w5 lo vO qO ∧ (∀ k, vO.ownBlock = some k → vn.ownBlock ≠ some k) ∧ Below lo wd w5 := by
  have b12 : Below wd.heap.size wd w2 := below_step hb1 hb2
  have b13 : Below wd.heap.size wd w3 := below_step b12 hb3
  have X3 : Box w3 b1 P f vR vQ tr := blk_below HX b13
  have Z3 := blk_below HZ b13
  have Y3 : Box w3 b3 P g v1 v2 tr := blk_below HY b13
  have M2 := CM.step (CM.below HM hb1) (Nat.le_trans hlo (below_size hb1)) hb2 hr
  have M3 := CM.below M2 hb3
  have O3 : Outer w3 lo v xs := Kd.R_below HO b13
  have OO3 : Outer w3 lo vO qO := Kd.R_below HOO b13
  have hnb : ∀ {k : Nat} {cs : Array Value}, w3.heap[k]? = some (.cells cs 70 (0, 0)) → some k ≠ v.ownBlock := fun {k} {cs} h => Kd.R_ne O3 h (by decide)
  have X4 : Box w4 b1 P f vR vQ tr := blk_grown X3 hg (hnb X3)
  have Z4 := blk_grown Z3 hg (hnb Z3)
  have Y4 : Box w4 b3 P g v1 v2 tr := blk_grown Y3 hg (hnb Y3)
  have M4 : CM w4 lo (up g j (encS x)) ls (fun q => D q || q == j) := MS.grownOuter M3 O3 hg
  have OO4 : Outer w4 lo vO qO := Kd.R_grown OO3 hg (fun k hk c => hne k hk c.symm)
  have On4 : Outer w4 lo vn (xs ++ [x]) := R_self hap
  have hlt : ∀ k, vO.ownBlock = some k → k < w3.heap.size := fun k hk => by
    obtain ⟨cur, hcc⟩ := own_block OO3 hk
    exact blk_lt hcc
  have hne2 : ∀ k, vO.ownBlock = some k → vn.ownBlock ≠ some k := by
    intro k hk hn
    rcases hat with e | ⟨b, e, hb⟩
    · rw [e] at hn; exact hne k hk hn
    · rw [e] at hn
      injection hn with hn
      have := hlt k hk
      omega
  have B4 : Below lo wd w4 := ((b13.mono hlo).grown hg (Nat.le_trans hlo (below_size b13)) (fun k hk => Kd.R_base O3 k hk))
  subst hw
  refine ⟨blk_far X4 h13 _, blk_far Z4 h23 _, ?_, CM.far M4 Y4 (by decide) c _, outer_far On4 Y4 (by decide) c _, outer_far OO4 Y4 (by decide) c _, hne2, B4.setCell hge _⟩
  show Box _ _ _ _ _ _ _
  unfold Box
  rw [sCells_up P g j _ _ _ _ hj]
  rcases hc with ⟨_, rfl, rfl, rfl⟩ | ⟨_, rfl, rfl, rfl⟩
  · exact Box.set9 Y4 _
  · exact Box.set13 Y4 _
theorem CM.congr {w : World} {lo : Nat} {g : Nat → Value} {ls : Nat → List Int} {D D' : Nat → Bool} (h : CM w lo g ls D) (e : ∀ q, D q = D' q) : CM w lo g ls D' := by
  rw [show D' = D from funext (fun q => (e q).symm)]; exact h
theorem key12 (q i : Nat) : ((decide (12 ≤ q) && decide (q < 12 + i)) || q == 12 + i) = (decide (12 ≤ q) && decide (q < 12 + (i + 1))) := by
  rw [Bool.eq_iff_iff]
  simp
  omega
theorem getD_app {α : Type} (xs : List α) (x z : α) (k : Nat) (hk : k < xs.length + 1) : (xs ++ [x]).getD k z = if k = xs.length then x else xs.getD k z := by
  by_cases h : k = xs.length
  · subst h; simp
  · rw [if_neg h, List.getD_eq_getElem?_getD, List.getD_eq_getElem?_getD, List.getElem?_append_left (by omega)]
/-- A state at work: rows of one's own, and the two rows of rows. -/
structure WS (w : World) (lo : Nat) (g : Nat → Value) (ls : Nat → List Int) (vR vQ : Value) (nc : Nat) : Prop where
  ms : MS w lo g ls
  r : ∃ x, Outer w lo vR [x] ∧ g 2 = encS x
  q : ∃ qs, Outer w lo vQ qs ∧ qs.length = nc ∧ ∀ k, k < nc → g (12 + k) = encS (qs.getD k (none, 0, 0))
  ne : ∀ k, vR.ownBlock = some k → vQ.ownBlock ≠ some k
theorem WS.rs {w : World} {lo : Nat} {g : Nat → Value} {ls : Nat → List Int} {vR vQ : Value} {nc : Nat} (h : WS w lo g ls vR vQ nc) : RS w g ls vR vQ nc := by
  obtain ⟨x, hr, e2⟩ := h.r
  obtain ⟨qs, hq, rfl, eq⟩ := h.q
  exact RS.mk' (fun j => IS.ofMS h.ms j) hr e2 hq eq
theorem WS.farRow {w : World} {lo : Nat} {g0 : Nat → Value} {ls : Nat → List Int} {vR vQ : Value} {nc : Nat} (h : WS w lo g0 ls vR vQ nc) {g t : Nat} {cells : Array Value} (hb : w.heap[g]? = some (.cells cells t (0, 0))) (ht : 3 ≠ t) (ht2 : 23 ≠ t) (cs : Array Value) : WS (w.setRow g cs) lo g0 ls vR vQ nc := by
  obtain ⟨x, hr, e2⟩ := h.r
  obtain ⟨qs, hq, el, eq⟩ := h.q
  exact ⟨h.ms.farRow hb ht cs, ⟨x, outer_farRow hr hb ht2 cs, e2⟩, ⟨qs, outer_farRow hq hb ht2 cs, el, eq⟩, h.ne⟩
set_option maxHeartbeats 16000000 in
set_option maxRecDepth 100000 in
theorem copy_any (P : PV) (f : Nat → Value) (ls : Nat → List Int) (vR vQ : Value) (nc : Nat) (tr : Int) (w : World) (h : RS w f ls vR vQ nc) (hl : ∀ j, (ls j).length < 17592186044416) (hC : P.vC.oneCell' = true) (hT : P.vT.oneCell' = true) (hnc : nc ≤ 4) (hun : ∀ j, ls j ≠ [] → D9 j = true ∨ j = 2 ∨ (12 ≤ j ∧ j < 12 + nc)) :
    Calls Try.prog 53 #[.agg (sCells P f vR vQ tr)] w (fun e w' => ∃ g vR' vQ', e = .returned (.agg (sCells P g vR' vQ' tr)) ∧ WS w' w.heap.size g ls vR' vQ' nc ∧ Below w.heap.size w w') := by
  have HS := am h
  have HL := am hl
  have HNC := am hnc
  have HUN := am hun
  have HONE := am (sOne tr h hC hT)
  have HC := am hC
  have HT := am hT
  clear h hl hC hT hnc hun
  obtain ⟨adR, cR, eR, _, hcR⟩ := HS.out.r
  obtain ⟨AQ, cQ, eQ, _, hcQ⟩ := HS.out.q
  subst eR eQ
  have HCR := am hcR
  have HCQ := am hcQ
  clear hcR hcQ
  generalize EVR : Value.slice (some adR) 1 cR = vR at *
  generalize EVQ : Value.slice AQ nc cQ = vQ at *
  have HVR := am EVR
  have HVQ := am EVQ
  clear EVR EVQ
  go_enter Try.func53, Try.ntmps53
  go_upto_region 12 with (first | ((with_reducible refine gd 1 ?_); refine box_event ?hg (N := 1) ?hd (cs := sCells P f vR vQ tr) (t := 70) ?hr ?_; (case hd => rfl); (case hg => rfl); (case hr => first | (go_simp; done) | (first | (go_simp; done) | (go_simp; rfl))); intro b1 hg W hbox hb; have HX := am hbox; have HB := am hb; have HG1 := am (Nat.le_of_eq hg.symm); clear hg hbox hb) | ((with_reducible refine gd 2 ?_); refine box_event ?hg (N := 2) ?hd (cs := #[.int .i64 0, .int .i64 0, .int .i64 0, .slice none 0 0, .int .i64 0, .int .i64 0, .slice none 0 0, .slice none 0 0, .slice none 0 0, .slice none 0 0, .slice none 0 0, .slice none 0 0, .slice none 0 0, .slice none 0 0, .slice none 0 0, .slice none 0 0, .slice none 0 0, .slice none 0 0, .int .i64 0]) (t := 70) ?hr ?_; (case hd => rfl); (case hg => rfl); (case hr => first | (go_simp; done) | (first | (go_simp; done) | (go_simp; rfl))); intro b2 hg W hbox hb; have HN12 := am (Nat.ne_of_lt (Nat.lt_of_lt_of_le (blk_lt HX.out) (Nat.le_of_eq hg.symm))); have HG2 := am (Nat.le_trans (below_size HB.out) (Nat.le_of_eq hg.symm)); replace HX := am (blk_below HX.out hb); have HZ := am hbox; replace HB := am (below_step HB.out hb); clear hg hbox hb) | ((with_reducible refine gd 6 ?_); refine wpList_load_row rfl 70 (.tmp 1) rfl b1 rfl 70 (sCells P f vR vQ tr) (0, 0) _ HX.out Try.underlying70 rfl size70 ?_) | ((with_reducible refine gd 3 ?_); refine box_event ?hg (N := 3) ?hd (cs := #[.int .i64 0, .int .i64 0, .int .i64 0, .slice none 0 0, .int .i64 0, .int .i64 0, .slice none 0 0, .slice none 0 0, .slice none 0 0, .slice none 0 0, .slice none 0 0, .slice none 0 0, .slice none 0 0, .slice none 0 0, .slice none 0 0, .slice none 0 0, .slice none 0 0, .slice none 0 0, .int .i64 0]) (t := 70) ?hr ?_; (case hd => rfl); (case hg => rfl); (case hr => first | (go_simp; done) | (first | (go_simp; done) | (go_simp; rfl))); intro b3 hg W hbox hb; have HN13 := am (Nat.ne_of_lt (Nat.lt_of_lt_of_le (blk_lt HX.out) (Nat.le_of_eq hg.symm))); have HN23 := am (Nat.ne_of_lt (Nat.lt_of_lt_of_le (blk_lt HZ.out) (Nat.le_of_eq hg.symm))); have HG3 := am (Nat.le_trans (below_size HB.out) (Nat.le_of_eq hg.symm)); replace HX := am (blk_below HX.out hb); replace HZ := am (blk_below HZ.out hb); have HY0 := am hbox; replace HB := am (below_step HB.out hb); clear hg hbox hb) | ((with_reducible refine gs 70 3 ?_); refine store_row_event rfl 70 (.tmp 3) (.tmp 6) rfl b3 (sCells P f vR vQ tr) rfl rfl 70 _ HY0.out size70 rfl HONE.out rfl ?_; intro W hw; replace HX := am (show Box W b1 P f vR vQ tr by rw [hw]; exact (setRow_other _ _ _ _ HN13.out).trans HX.out); replace HZ := am (show W.heap[b2]? = some (.cells zCells 70 (0, 0)) by rw [hw]; exact (setRow_other _ _ _ _ HN23.out).trans HZ.out); have HY := am (show Box W b3 P f vR vQ tr by rw [hw]; exact setRow_heap _ _ _ _ _ _ HY0.out); replace HB := am (show Below w.heap.size w W by rw [hw]; exact below_rowS HB.out HG3.out); clear hw HY0; have HCM := am (CM.none_ W w.heap.size ls); have x_ := Box.at7 HX.out) | (go_at_call 62; refine (clone_any _ _ _ ((HS.out.row _).below HB.out) (HL.out _)).mono ?_; rintro e W ⟨v, rfl, hr, hb⟩; obtain ⟨A_, c_, e_⟩ := Kd.R_slice hr; subst e_; replace HCM := am (CM.step HCM.out (below_size HB.out) hb hr); replace HX := am (blk_below HX.out hb); replace HY := am (blk_below HY.out hb); replace HZ := am (blk_below HZ.out hb); replace HB := am (below_step HB.out hb); clear hr hb x_) | ((with_reducible refine gs 23 10 ?_); refine store_event (w1 := W.setCell ⟨b3, 7, none⟩ (.slice A_ (ls 0).length c_)) rfl rfl rfl ?hr ?_; (case hr => (have y_ := Box.at7 HY.out; have z_ := Box.fr HY.out 7; first | (go_simp; done) | (go_simp; rfl))); intro W hw; replace HCM := am (show CM W _ _ ls _ by rw [hw]; exact HCM.out.far HY.out (by decide) 7 _); replace HX := am (show Box W b1 P f vR vQ tr by rw [hw]; exact blk_far HX.out HN13.out _); replace HZ := am (show W.heap[b2]? = some (.cells zCells 70 (0, 0)) by rw [hw]; exact blk_far HZ.out HN23.out _); replace HB := am (show Below w.heap.size w W by rw [hw]; exact below_set HB.out HG3.out); replace HY := am (show Box W b3 P _ vR vQ tr by rw [hw]; exact Box.set7 HY.out _); clear hw; have x_ := Box.at8 HX.out) | ((with_reducible refine gs 23 14 ?_); refine store_event (w1 := W.setCell ⟨b3, 8, none⟩ (.slice A_ (ls 1).length c_)) rfl rfl rfl ?hr ?_; (case hr => (have y_ := Box.at8 HY.out; have z_ := Box.fr HY.out 8; first | (go_simp; done) | (go_simp; rfl))); intro W hw; replace HCM := am (show CM W _ _ ls _ by rw [hw]; exact HCM.out.far HY.out (by decide) 8 _); replace HX := am (show Box W b1 P f vR vQ tr by rw [hw]; exact blk_far HX.out HN13.out _); replace HZ := am (show W.heap[b2]? = some (.cells zCells 70 (0, 0)) by rw [hw]; exact blk_far HZ.out HN23.out _); replace HB := am (show Below w.heap.size w W by rw [hw]; exact below_set HB.out HG3.out); replace HY := am (show Box W b3 P _ vR vQ tr by rw [hw]; exact Box.set8 HY.out _); clear hw; have x_ := Box.at10 HX.out) | ((with_reducible refine gs 23 18 ?_); refine store_event (w1 := W.setCell ⟨b3, 10, none⟩ (.slice A_ (ls 4).length c_)) rfl rfl rfl ?hr ?_; (case hr => (have y_ := Box.at10 HY.out; have z_ := Box.fr HY.out 10; first | (go_simp; done) | (go_simp; rfl))); intro W hw; replace HCM := am (show CM W _ _ ls _ by rw [hw]; exact HCM.out.far HY.out (by decide) 10 _); replace HX := am (show Box W b1 P f vR vQ tr by rw [hw]; exact blk_far HX.out HN13.out _); replace HZ := am (show W.heap[b2]? = some (.cells zCells 70 (0, 0)) by rw [hw]; exact blk_far HZ.out HN23.out _); replace HB := am (show Below w.heap.size w W by rw [hw]; exact below_set HB.out HG3.out); replace HY := am (show Box W b3 P _ vR vQ tr by rw [hw]; exact Box.set10 HY.out _); clear hw; have x_ := Box.at11 HX.out) | ((with_reducible refine gs 23 22 ?_); refine store_event (w1 := W.setCell ⟨b3, 11, none⟩ (.slice A_ (ls 5).length c_)) rfl rfl rfl ?hr ?_; (case hr => (have y_ := Box.at11 HY.out; have z_ := Box.fr HY.out 11; first | (go_simp; done) | (go_simp; rfl))); intro W hw; replace HCM := am (show CM W _ _ ls _ by rw [hw]; exact HCM.out.far HY.out (by decide) 11 _); replace HX := am (show Box W b1 P f vR vQ tr by rw [hw]; exact blk_far HX.out HN13.out _); replace HZ := am (show W.heap[b2]? = some (.cells zCells 70 (0, 0)) by rw [hw]; exact blk_far HZ.out HN23.out _); replace HB := am (show Below w.heap.size w W by rw [hw]; exact below_set HB.out HG3.out); replace HY := am (show Box W b3 P _ vR vQ tr by rw [hw]; exact Box.set11 HY.out _); clear hw; have x_ := Box.at12 HX.out) | ((with_reducible refine gs 23 26 ?_); refine store_event (w1 := W.setCell ⟨b3, 12, none⟩ (.slice A_ (ls 6).length c_)) rfl rfl rfl ?hr ?_; (case hr => (have y_ := Box.at12 HY.out; have z_ := Box.fr HY.out 12; first | (go_simp; done) | (go_simp; rfl))); intro W hw; replace HCM := am (show CM W _ _ ls _ by rw [hw]; exact HCM.out.far HY.out (by decide) 12 _); replace HX := am (show Box W b1 P f vR vQ tr by rw [hw]; exact blk_far HX.out HN13.out _); replace HZ := am (show W.heap[b2]? = some (.cells zCells 70 (0, 0)) by rw [hw]; exact blk_far HZ.out HN23.out _); replace HB := am (show Below w.heap.size w W by rw [hw]; exact below_set HB.out HG3.out); replace HY := am (show Box W b3 P _ vR vQ tr by rw [hw]; exact Box.set12 HY.out _); clear hw; have x_ := Box.at14 HX.out) | ((with_reducible refine gs 23 30 ?_); refine store_event (w1 := W.setCell ⟨b3, 14, none⟩ (.slice A_ (ls 8).length c_)) rfl rfl rfl ?hr ?_; (case hr => (have y_ := Box.at14 HY.out; have z_ := Box.fr HY.out 14; first | (go_simp; done) | (go_simp; rfl))); intro W hw; replace HCM := am (show CM W _ _ ls _ by rw [hw]; exact HCM.out.far HY.out (by decide) 14 _); replace HX := am (show Box W b1 P f vR vQ tr by rw [hw]; exact blk_far HX.out HN13.out _); replace HZ := am (show W.heap[b2]? = some (.cells zCells 70 (0, 0)) by rw [hw]; exact blk_far HZ.out HN23.out _); replace HB := am (show Below w.heap.size w W by rw [hw]; exact below_set HB.out HG3.out); replace HY := am (show Box W b3 P _ vR vQ tr by rw [hw]; exact Box.set14 HY.out _); clear hw; have x_ := Box.at15 HX.out) | ((with_reducible refine gs 23 34 ?_); refine store_event (w1 := W.setCell ⟨b3, 15, none⟩ (.slice A_ (ls 9).length c_)) rfl rfl rfl ?hr ?_; (case hr => (have y_ := Box.at15 HY.out; have z_ := Box.fr HY.out 15; first | (go_simp; done) | (go_simp; rfl))); intro W hw; replace HCM := am (show CM W _ _ ls _ by rw [hw]; exact HCM.out.far HY.out (by decide) 15 _); replace HX := am (show Box W b1 P f vR vQ tr by rw [hw]; exact blk_far HX.out HN13.out _); replace HZ := am (show W.heap[b2]? = some (.cells zCells 70 (0, 0)) by rw [hw]; exact blk_far HZ.out HN23.out _); replace HB := am (show Below w.heap.size w W by rw [hw]; exact below_set HB.out HG3.out); replace HY := am (show Box W b3 P _ vR vQ tr by rw [hw]; exact Box.set15 HY.out _); clear hw; have x_ := Box.at16 HX.out) | ((with_reducible refine gs 23 38 ?_); refine store_event (w1 := W.setCell ⟨b3, 16, none⟩ (.slice A_ (ls 10).length c_)) rfl rfl rfl ?hr ?_; (case hr => (have y_ := Box.at16 HY.out; have z_ := Box.fr HY.out 16; first | (go_simp; done) | (go_simp; rfl))); intro W hw; replace HCM := am (show CM W _ _ ls _ by rw [hw]; exact HCM.out.far HY.out (by decide) 16 _); replace HX := am (show Box W b1 P f vR vQ tr by rw [hw]; exact blk_far HX.out HN13.out _); replace HZ := am (show W.heap[b2]? = some (.cells zCells 70 (0, 0)) by rw [hw]; exact blk_far HZ.out HN23.out _); replace HB := am (show Below w.heap.size w W by rw [hw]; exact below_set HB.out HG3.out); replace HY := am (show Box W b3 P _ vR vQ tr by rw [hw]; exact Box.set16 HY.out _); clear hw; have x_ := Box.at17 HX.out) | ((with_reducible refine gs 23 42 ?_); refine store_event (w1 := W.setCell ⟨b3, 17, none⟩ (.slice A_ (ls 11).length c_)) rfl rfl rfl ?hr ?_; (case hr => (have y_ := Box.at17 HY.out; have z_ := Box.fr HY.out 17; first | (go_simp; done) | (go_simp; rfl))); intro W hw; replace HCM := am (show CM W _ _ ls _ by rw [hw]; exact HCM.out.far HY.out (by decide) 17 _); replace HX := am (show Box W b1 P f vR vQ tr by rw [hw]; exact blk_far HX.out HN13.out _); replace HZ := am (show W.heap[b2]? = some (.cells zCells 70 (0, 0)) by rw [hw]; exact blk_far HZ.out HN23.out _); replace HB := am (show Below w.heap.size w W by rw [hw]; exact below_set HB.out HG3.out); replace HY := am (show Box W b3 P _ vR vQ tr by rw [hw]; exact Box.set17 HY.out _); clear hw; have x_ := Box.at9 HX.out) | ((with_reducible refine gs 68 43 ?_); refine store_event (w1 := W.setCell ⟨b3, 9, none⟩ (.slice none 0 0)) rfl rfl rfl ?hr ?_; (case hr => (have y_ := Box.at9 HY.out; have z_ := Box.fr HY.out 9; first | (go_simp; done) | (go_simp; rfl))); intro W hw; replace HCM := am (show CM W _ _ ls _ by rw [hw]; exact HCM.out.far HY.out (by decide) 9 _); replace HX := am (show Box W b1 P f vR vQ tr by rw [hw]; exact blk_far HX.out HN13.out _); replace HZ := am (show W.heap[b2]? = some (.cells zCells 70 (0, 0)) by rw [hw]; exact blk_far HZ.out HN23.out _); replace HB := am (show Below w.heap.size w W by rw [hw]; exact below_set HB.out HG3.out); replace HY := am (show Box W b3 P _ (.slice none 0 0) vQ tr by rw [hw]; exact Box.set9 HY.out _); clear hw x_))
  have HYM : Aside0 (∃ g, CM W w.heap.size g ls D9 ∧ Box W b3 P g (.slice none 0 0) vQ tr) := ⟨⟨_, HCM.out, HY.out⟩⟩
  clear HCM HY
  obtain ⟨g0, HM0, HY0⟩ := HYM.out
  clear HYM
  have S0 : Aside0 (Box W b3 P g0 (.slice none 0 0) vQ tr ∧ CM W w.heap.size g0 ls (fun q => D9 q || (decide (0 < 0) && q == 2))) := ⟨HY0, CM.congr HM0 (fun q => by simp)⟩
  clear HM0 HY0
  go_wp2
  go_loopw [4] (fun v4 wr => ∃ (i : Nat) (g : Nat → Value) (v1 : Value) (xs : List (Option Addr × Nat × Nat)), i ≤ 1 ∧ v4 = .int .i64 (i : Int) ∧ Aside0 (Box wr b1 P f vR vQ tr ∧ wr.heap[b2]? = some (.cells zCells 70 (0, 0)) ∧ Box wr b3 P g v1 vQ tr) ∧ Aside0 (CM wr w.heap.size g ls (fun q => D9 q || (decide (0 < i) && q == 2))) ∧ Aside0 (Outer wr w.heap.size v1 xs ∧ xs.length = i ∧ ∀ k, k < i → g 2 = encS (xs.getD k (none, 0, 0))) ∧ Aside0 (Below w.heap.size w wr)) (fun v4 _ => 1 - (intOf v4).toNat)
  case atStart => exact ⟨0, g0, .slice none 0 0, [], Nat.zero_le _, rfl, ⟨HX.out, HZ.out, S0.out.1⟩, ⟨S0.out.2⟩, ⟨Kd.R_nil _ _ _ _ _, rfl, fun k hk => by omega⟩, HB⟩
  case round =>
    clear S0 HX HZ HB
    obtain ⟨i, g, v1, xs, hi, rfl, HXYZ, HM, HO, HB⟩ := hrel
    have HX := am HXYZ.out.1
    have HZ := am HXYZ.out.2.1
    have HY := am HXYZ.out.2.2
    clear HXYZ
    have x9 := Box.at9 HX.out
    rw [← HVR.out] at x9
    have HK : Aside0 (i ≤ 4) := ⟨by omega⟩
    obtain ⟨A1, c1, e1⟩ := Kd.R_slice HO.out.1
    have HE1 := am e1
    clear e1
    by_cases hlt : i < 1
    · obtain rfl : i = 0 := by omega
      clear hlt hi
      as_aux_lemma =>
        go_wp2
        refine sa 12 (fun w' => Below wr.heap.size wr w') copyT15 (below_drew (Below.refl _ _)) [9, 11] (fun HT_ hHeld => ?_)
        refine pu 0 51 HT_ ?_
        refine ta 1 52 HT_ hHeld (v := ?_) ?_ ?_; rotate_left
        · intro w' hS'; have y_ := Box.at9 (blk_below HY.out hS'); go_simp; with_reducible rfl
        refine pu 2 53 HT_ ?_
        refine ta 3 54 HT_ hHeld (v := ?_) ?_ ?_; rotate_left
        · intro w' hS'; have y_ := Box.at9 (blk_below HX.out hS'); rw [← HVR.out] at y_; go_simp; with_reducible rfl
        refine pu 4 55 HT_ ?_
        refine pu 5 56 HT_ ?_
        refine ta 6 57 HT_ hHeld (v := ?_) ?_ ?_; rotate_left
        · intro w' hS'; have y_ := pw_cell_below (below_step HB.out hS') HCR.out; go_simp; with_reducible rfl
        refine on 7 (some 58) HT_ (fun K hK => ?_)
        refine call_ 62 #[f 2] (by rfl) rfl ?hr ?_
        case hr => go_simp; try rfl
        refine (clone_any (ls 2) (f 2) _ ((HS.out.row 2).below (below_step HB.out hHeld)) (HL.out 2)).mono ?_
        rintro e w2 ⟨vx, rfl, hr, hb2⟩
        obtain ⟨A_, c_, e_⟩ := Kd.R_slice hr
        subst e_
        have HR2 := am hr
        have HB1 := am hHeld
        have HB2 := am hb2
        have hb12 := below_step hHeld hb2
        clear hr hb2
        refine ⟨_, rfl, ?_⟩
        refine hK.out _ _ (hb12) (fun hHeld => ?_)
        clear hK K
        refine nm 58 ?_
        clear hb12
        refine on 8 (some 59) HT_ (fun K hK => ?_)
        refine Kd.R_lit_step kS (w0 := w2) w2.heap.size 23 (by rfl) (N := 59) rfl (xs := [(A_, (ls 2).length, c_)]) (inner := [encS (A_, (ls 2).length, c_)]) (ok := fun _ => True) (okp := fun _ => False) ?hr (Kd.reps_scalar _) (fun _ h => h.elim) trivial (Below.refl _ _) (Nat.le_refl _) (by simp) ?_
        case hr => go_simp; try rfl
        intro vl w3 hl hb3 _ _
        obtain ⟨Al, cl, el⟩ := Kd.R_slice hl
        subst el
        have HL3 := am (Kd.R_reads' hl).2.2
        have HB3 := am hb3
        have hb13 := below_step hHeld hb3
        clear hl hb3
        refine hK.out _ _ (hb13) (fun hHeld => ?_)
        clear hK K
        refine nm 59 ?_
        clear hb13
        refine la 9 (some 60) HT_ (fun K hK => ?_)
        have O3_ : Outer w3 w.heap.size v1 xs := Kd.R_below HO.out.1 hHeld
        have BB_ := below_step HB.out hHeld
        refine Kd.R_append_rows_step kS (w0 := w) w.heap.size (by rfl) (.tmp 52) (.tmp 59) 68 23 (.slice none 0 0) 24 rfl Try.underlying68 info23 rfl (by decide) (by omega) v1 xs [(A_, (ls 2).length, c_)] _ _ _ (fun _ => True) (fun _ => False) rfl rfl (Kd.R_mono O3_ (fun _ _ => trivial)) HL3.out (fun _ _ h => h) (fun _ h => h.elim) (fun _ _ => trivial) BB_ (below_size BB_) ?hl ?_
        case hl => have := HO.out.2.1; have := HK.out; simp only [List.length_cons, List.length_nil]; omega
        intro vn w4 hap _ hg4 hat
        obtain ⟨An, cn, en⟩ := Kd.R_slice hap
        subst en
        have HY4 : Aside0 (Box w4 b3 P g v1 vQ tr) := ⟨blk_grown (blk_below HY.out hHeld) hg4 (Kd.R_ne O3_ (blk_below HY.out hHeld) (by decide))⟩
        have HAP := am hap
        have HG4 := am hg4
        have HAT := am hat
        clear hap hg4 hat O3_ BB_
        refine hK.out _ _ ?_
        clear hK K
        refine nm 60 ?_
        refine pu 10 61 HT_ ?_
        refine la 11 (none) HT_ (fun K hK => ?_)
        have y_ := Box.at9 HY4.out
        have z_ := Box.fr HY4.out 9
        refine skip_ (w1 := (w4.setCell ⟨b3, 9, none⟩ (.slice An (xs ++ [(A_, (ls 2).length, c_)]).length cn))) (by rfl) rfl ?hr ?_
        case hr => go_simp; try rfl
        clear y_ z_
        obtain ⟨w5, hw5⟩ : ∃ w5, w5 = w4.setCell ⟨b3, 9, none⟩ (.slice An (xs ++ [(A_, (ls 2).length, c_)]).length cn) := ⟨_, rfl⟩
        have HRD := am (copy_round HN13.out HN23.out HG3.out (Or.inl rfl) (Or.inl ⟨rfl, rfl, rfl, rfl⟩) HX.out HZ.out HY.out HM.out (below_size HB.out) HO.out.1 (Kd.R_nil kS 23 wr w.heap.size _) (fun k hk => by simp [Value.ownBlock] at hk) HB1.out HR2.out HB2.out HB3.out HAP.out HG4.out HAT.out hw5)
        rw [← hw5]
        clear hw5
        refine hK.out _ _ ?_
        clear hK K
        refine dn HT_ ?_
        go_wp2
        go_roundw
        case rel =>
          have hx := HRD.out
          exact ⟨1, _, _, _, Nat.le_refl _, by go_num, ⟨hx.1, hx.2.1, hx.2.2.1⟩, ⟨CM.congr hx.2.2.2.1 (fun q => by simp)⟩, ⟨hx.2.2.2.2.1, by rw [List.length_append, HO.out.2.1]; rfl, fun k hk => by rw [up_same, getD_app _ _ _ _ (by omega), if_pos (by have := HO.out.2.1; omega)]⟩, ⟨HB.out.trans hx.2.2.2.2.2.2.2⟩⟩
        case measure => simp [intOf]
    · obtain rfl : i = 1 := by omega
      clear hlt hi
      have HX1 : Aside0 (∃ x, Outer wr w.heap.size v1 [x] ∧ g 2 = encS x) := ⟨by
        obtain ⟨h1, h2, h3⟩ := HO.out
        obtain ⟨x, rfl⟩ := List.length_eq_one_iff.1 h2
        exact ⟨x, h1, h3 0 (by omega)⟩⟩
      clear HO HK HE1 A1 c1
      obtain ⟨x0, O0, G0⟩ := HX1.out
      have HO := am O0
      have HG0 := am G0
      clear HX1 O0 G0 xs
      go_wp2_with (((with_reducible refine gs 68 62 ?_); refine store_event (w1 := wr.setCell ⟨b3, 13, none⟩ (.slice none 0 0)) rfl rfl rfl ?hr ?_; (case hr => (have y_ := Box.at13 HY.out; have z_ := Box.fr HY.out 13; first | (go_simp; done) | (go_simp; rfl))); intro W hw; replace HM := am (show CM W w.heap.size g ls _ by rw [hw]; exact HM.out.far HY.out (by decide) 13 _); replace HO := am (show Outer W w.heap.size v1 [x0] by rw [hw]; exact outer_far HO.out HY.out (by decide) 13 _); replace HX := am (show Box W b1 P f vR vQ tr by rw [hw]; exact blk_far HX.out HN13.out _); replace HZ := am (show W.heap[b2]? = some (.cells zCells 70 (0, 0)) by rw [hw]; exact blk_far HZ.out HN23.out _); replace HB := am (show Below w.heap.size w W by rw [hw]; exact below_set HB.out HG3.out); replace HY := am (show Box W b3 P g v1 (.slice none 0 0) tr by rw [hw]; exact Box.set13 HY.out _); clear hw x9))
      generalize v1 = v0 at *
      generalize g = g0 at *
      go_loopw [5] (fun v5 wr => ∃ (i : Nat) (g : Nat → Value) (v1 : Value) (xs : List (Option Addr × Nat × Nat)), i ≤ nc ∧ v5 = .int .i64 (i : Int) ∧ Aside0 (Box wr b1 P f vR vQ tr ∧ wr.heap[b2]? = some (.cells zCells 70 (0, 0)) ∧ Box wr b3 P g v0 v1 tr) ∧ Aside0 (CM wr w.heap.size g ls (fun q => (D9 q || q == 2) || (decide (12 ≤ q) && decide (q < 12 + i)))) ∧ Aside0 (Outer wr w.heap.size v1 xs ∧ xs.length = i ∧ ∀ k, k < i → g (12 + k) = encS (xs.getD k (none, 0, 0))) ∧ Aside0 ((Outer wr w.heap.size v0 [x0] ∧ g 2 = encS x0) ∧ ∀ k, v0.ownBlock = some k → v1.ownBlock ≠ some k) ∧ Aside0 (Below w.heap.size w wr)) (fun v5 _ => nc - (intOf v5).toNat)
      case atStart => exact ⟨0, g0, .slice none 0 0, [], Nat.zero_le _, rfl, ⟨HX.out, HZ.out, HY.out⟩, ⟨CM.congr HM.out (fun q => by simp; omega)⟩, ⟨Kd.R_nil _ _ _ _ _, rfl, fun k hk => by omega⟩, ⟨⟨HO.out, HG0.out⟩, fun k _ h => by simp [Value.ownBlock] at h⟩, HB⟩
      case round =>
        clear HX HZ HB HY HM HO HG0
        obtain ⟨i, g, v1, xs, hi, rfl, HXYZ, HM, HO, HOO, HB⟩ := hrel
        have HX := am HXYZ.out.1
        have HZ := am HXYZ.out.2.1
        have HY := am HXYZ.out.2.2
        clear HXYZ
        have x13 := Box.at13 HX.out
        rw [← HVQ.out] at x13
        by_cases hlt : i < nc
        · as_aux_lemma =>
            have HK : Aside0 (i ≤ 4) := ⟨by have := HNC.out; omega⟩
            obtain ⟨adQ, rfl, hcq⟩ := HCQ.out i hlt
            have HCQi := am hcq
            have HLT := am hlt
            clear hcq
            have p0 := eq_true (show (0 : Int) ≤ (i : Int) by omega)
            have p1 := eq_true (show (i : Int) < (nc : Int) by omega)
            have HE1 : Aside0 (wrap64 ((i : Int) + 1) = ((i + 1 : Nat) : Int)) := ⟨wrap64_up i (by have := HK.out; omega)⟩
            clear hlt
            go_wp2
            refine sa 12 (fun w' => Below wr.heap.size wr w') copyT20 (below_drew (Below.refl _ _)) [9, 11] (fun HT_ hHeld => ?_)
            refine pu 0 70 HT_ ?_
            refine ta 1 71 HT_ hHeld (v := ?_) ?_ ?_; rotate_left
            · intro w' hS'; have y_ := Box.at13 (blk_below HY.out hS'); go_simp; with_reducible rfl
            refine pu 2 72 HT_ ?_
            refine ta 3 73 HT_ hHeld (v := ?_) ?_ ?_; rotate_left
            · intro w' hS'; have y_ := Box.at13 (blk_below HX.out hS'); rw [← HVQ.out] at y_; go_simp; with_reducible rfl
            refine pu 4 74 HT_ ?_
            refine pu 5 75 HT_ ?_
            refine ta 6 76 HT_ hHeld (v := ?_) ?_ ?_; rotate_left
            · intro w' hS'; have y_ := pw_cell_below (below_step HB.out hS') HCQi.out; go_simp; with_reducible rfl
            refine on 7 (some 77) HT_ (fun K hK => ?_)
            refine call_ 62 #[f (12 + i)] (by rfl) rfl ?hr ?_
            case hr => go_simp; try rfl
            refine (clone_any (ls (12 + i)) (f (12 + i)) _ ((HS.out.row (12 + i)).below (below_step HB.out hHeld)) (HL.out (12 + i))).mono ?_
            rintro e w2 ⟨vx, rfl, hr, hb2⟩
            obtain ⟨A_, c_, e_⟩ := Kd.R_slice hr
            subst e_
            have HR2 := am hr
            have HB1 := am hHeld
            have HB2 := am hb2
            have hb12 := below_step hHeld hb2
            clear hr hb2
            refine ⟨_, rfl, ?_⟩
            refine hK.out _ _ (hb12) (fun hHeld => ?_)
            clear hK K
            refine nm 77 ?_
            clear hb12
            refine on 8 (some 78) HT_ (fun K hK => ?_)
            refine Kd.R_lit_step kS (w0 := w2) w2.heap.size 23 (by rfl) (N := 78) rfl (xs := [(A_, (ls (12 + i)).length, c_)]) (inner := [encS (A_, (ls (12 + i)).length, c_)]) (ok := fun _ => True) (okp := fun _ => False) ?hr (Kd.reps_scalar _) (fun _ h => h.elim) trivial (Below.refl _ _) (Nat.le_refl _) (by simp) ?_
            case hr => go_simp; try rfl
            intro vl w3 hl hb3 _ _
            obtain ⟨Al, cl, el⟩ := Kd.R_slice hl
            subst el
            have HL3 := am (Kd.R_reads' hl).2.2
            have HB3 := am hb3
            have hb13 := below_step hHeld hb3
            clear hl hb3
            refine hK.out _ _ (hb13) (fun hHeld => ?_)
            clear hK K
            refine nm 78 ?_
            clear hb13
            refine la 9 (some 79) HT_ (fun K hK => ?_)
            have O3_ : Outer w3 w.heap.size v1 xs := Kd.R_below HO.out.1 hHeld
            have BB_ := below_step HB.out hHeld
            refine Kd.R_append_rows_step kS (w0 := w) w.heap.size (by rfl) (.tmp 71) (.tmp 78) 68 23 (.slice none 0 0) 24 rfl Try.underlying68 info23 rfl (by decide) (by omega) v1 xs [(A_, (ls (12 + i)).length, c_)] _ _ _ (fun _ => True) (fun _ => False) rfl rfl (Kd.R_mono O3_ (fun _ _ => trivial)) HL3.out (fun _ _ h => h) (fun _ h => h.elim) (fun _ _ => trivial) BB_ (below_size BB_) ?hl ?_
            case hl => have := HO.out.2.1; have := HK.out; simp only [List.length_cons, List.length_nil]; omega
            intro vn w4 hap _ hg4 hat
            obtain ⟨An, cn, en⟩ := Kd.R_slice hap
            subst en
            have HY4 : Aside0 (Box w4 b3 P g v0 v1 tr) := ⟨blk_grown (blk_below HY.out hHeld) hg4 (Kd.R_ne O3_ (blk_below HY.out hHeld) (by decide))⟩
            have HAP := am hap
            have HG4 := am hg4
            have HAT := am hat
            clear hap hg4 hat O3_ BB_
            refine hK.out _ _ ?_
            clear hK K
            refine nm 79 ?_
            refine pu 10 80 HT_ ?_
            refine la 11 (none) HT_ (fun K hK => ?_)
            have y_ := Box.at13 HY4.out
            have z_ := Box.fr HY4.out 13
            refine skip_ (w1 := (w4.setCell ⟨b3, 13, none⟩ (.slice An (xs ++ [(A_, (ls (12 + i)).length, c_)]).length cn))) (by rfl) rfl ?hr ?_
            case hr => go_simp; try rfl
            clear y_ z_
            obtain ⟨w5, hw5⟩ : ∃ w5, w5 = w4.setCell ⟨b3, 13, none⟩ (.slice An (xs ++ [(A_, (ls (12 + i)).length, c_)]).length cn) := ⟨_, rfl⟩
            have HRD := am (copy_round HN13.out HN23.out HG3.out (Or.inr (Nat.le_add_right 12 i)) (Or.inr ⟨rfl, rfl, rfl, rfl⟩) HX.out HZ.out HY.out HM.out (below_size HB.out) HO.out.1 HOO.out.1.1 HOO.out.2 HB1.out HR2.out HB2.out HB3.out HAP.out HG4.out HAT.out hw5)
            rw [← hw5]
            clear hw5
            refine hK.out _ _ ?_
            clear hK K
            refine dn HT_ ?_
            go_wp2
            go_roundw
            case rel =>
              have hx := HRD.out
              exact ⟨i + 1, _, _, _, HLT.out, by rw [HE1.out], ⟨hx.1, hx.2.1, hx.2.2.1⟩, ⟨CM.congr hx.2.2.2.1 (fun q => by rw [Bool.or_assoc, key12])⟩, ⟨hx.2.2.2.2.1, by rw [List.length_append, HO.out.2.1]; rfl, fun k hk => by
                rw [getD_app _ _ _ _ (by have := HO.out.2.1; omega)]
                by_cases h1 : k = i
                · subst h1
                  rw [up_same, if_pos HO.out.2.1.symm]
                · rw [up_ne _ _ _ (by omega), if_neg (by have := HO.out.2.1; omega)]
                  exact HO.out.2.2 k (by omega)⟩, ⟨⟨hx.2.2.2.2.2.1, by rw [up_ne _ _ _ (by omega)]; exact HOO.out.1.2⟩, hx.2.2.2.2.2.2.1⟩, ⟨HB.out.trans hx.2.2.2.2.2.2.2⟩⟩
            case measure => have := HLT.out; rw [HE1.out]; simp [intOf]; omega
        · as_aux_lemma =>
            obtain rfl : i = nc := by omega
            clear hlt hi
            have HW : Aside0 (WS wr w.heap.size g ls v0 v1 i) := ⟨⟨CM.all HM.out (fun j hj => by
              by_cases e : ls j = []
              · exact e
              · rcases HUN.out j e with h | h | h
                · rw [h] at hj; simp at hj
                · subst h; simp at hj
                · simp [h.1, h.2] at hj), ⟨x0, HOO.out.1⟩, ⟨xs, HO.out⟩, HOO.out.2⟩⟩
            have HONE2 := am (sOne tr HW.out.rs HC.out HT.out)
            go_wp2_with (first | ((with_reducible refine gd 81 ?_); refine wpList_load_row rfl 70 (.tmp 3) rfl b3 rfl 70 (sCells P g v0 v1 tr) (0, 0) _ HY.out Try.underlying70 rfl size70 ?_) | ((with_reducible refine gs 70 2 ?_); refine store_row_event rfl 70 (.tmp 2) (.tmp 81) rfl b2 (sCells P g v0 v1 tr) rfl rfl 70 _ HZ.out size70 rfl HONE2.out rfl ?_; intro W hw; have HZ5 := am (show Box W b2 P g v0 v1 tr by rw [hw]; exact setRow_heap _ _ _ _ _ _ HZ.out); replace HW := am (show WS W w.heap.size g ls v0 v1 i by rw [hw]; exact HW.out.farRow HZ.out (by decide) (by decide) _); replace HB := am (show Below w.heap.size w W by rw [hw]; exact below_rowS HB.out HG2.out); clear hw))
            refine ret_box rfl b2 70 (sCells P g v0 v1 tr) _ HZ5.out Try.underlying70 rfl size70 ?hp ?hd ?_
            case hp => rfl
            case hd => rfl
            exact ⟨g, v0, v1, rfl, HW.out, HB.out⟩
structure EvV where
  t : Int
  p : Int
  o : Int
  b : Int
  v : Int
  m : Int
abbrev eCells (e : EvV) : Array Value := #[.int .i64 e.t, .int .i64 e.p, .int .u8 e.o, .int .i64 e.b, .int .i64 e.v, .int .i64 e.m]
abbrev zE : Array Value := #[.int .i64 0, .int .i64 0, .int .u8 0, .int .i64 0, .int .i64 0, .int .i64 0]
theorem exec_store_row {Pp : Program} {o : Oper} {ev : Operand → Value} {w : World} (ty : TypeId) (x y : Operand) (ho : o.op = .store ty x y)
    (g : Nat) (cells : Array Value) (hx : ev x = .pointer (some ⟨g, 0, none⟩)) (hy : ev y = .agg cells)
    (t : TypeId) (old : Array Value) (hg : w.heap[g]? = some (.cells old t (0, 0))) (hi : (Pp.info? ty).map (·.size) = some cells.size)
    (hold : old.size = cells.size) (h1 : cells.all (·.oneCell') = true) : (execOp ev o).run Pp w = .ok .skip (w.setRow g cells) := by
  unfold execOp
  simp only [ho, hx, hy, Instr.storeAt, Instr.sureAddr, Sem.run_bind, Sem.run_pure, Result.andThen_ok, run_storeVar_row w g t ty old cells hg hi hold h1]
/-- As WS; what stands in the row of channels may be another thing than the rows themselves (f). -/
structure WF (w : World) (lo : Nat) (g f : Nat → Value) (ls : Nat → List Int) (vR vQ : Value) (nc : Nat) : Prop where
  ms : MS w lo g ls
  r : ∃ x, Outer w lo vR [x] ∧ g 2 = encS x
  q : ∃ qs, Outer w lo vQ qs ∧ qs.length = nc ∧ ∀ k, k < nc → f (12 + k) = encS (qs.getD k (none, 0, 0))
  ne : ∀ k, vR.ownBlock = some k → vQ.ownBlock ≠ some k
theorem WS.wf {w : World} {lo : Nat} {g : Nat → Value} {ls : Nat → List Int} {vR vQ : Value} {nc : Nat} (h : WS w lo g ls vR vQ nc) : WF w lo g g ls vR vQ nc := ⟨h.ms, h.r, h.q, h.ne⟩
theorem WF.below {w w1 : World} {lo : Nat} {g f : Nat → Value} {ls : Nat → List Int} {vR vQ : Value} {nc : Nat} (h : WF w lo g f ls vR vQ nc) (hb : Below w.heap.size w w1) : WF w1 lo g f ls vR vQ nc := by
  obtain ⟨x, hr, e2⟩ := h.r
  obtain ⟨qs, hq, el, eq⟩ := h.q
  exact ⟨h.ms.below hb, ⟨x, Kd.R_below hr hb, e2⟩, ⟨qs, Kd.R_below hq hb, el, eq⟩, h.ne⟩
theorem WF.far {w : World} {lo : Nat} {g0 f : Nat → Value} {ls : Nat → List Int} {vR vQ : Value} {nc : Nat} (h : WF w lo g0 f ls vR vQ nc) {g t : Nat} {cells : Array Value} (hb : w.heap[g]? = some (.cells cells t (0, 0))) (ht : 3 ≠ t) (ht2 : 23 ≠ t) (c : Nat) (u : Value) : WF (w.setCell ⟨g, c, none⟩ u) lo g0 f ls vR vQ nc := by
  obtain ⟨x, hr, e2⟩ := h.r
  obtain ⟨qs, hq, el, eq⟩ := h.q
  exact ⟨h.ms.far hb ht c u, ⟨x, outer_far hr hb ht2 c u, e2⟩, ⟨qs, outer_far hq hb ht2 c u, el, eq⟩, h.ne⟩
theorem WF.put {w : World} {lo : Nat} {f f1 : Nat → Value} {ls : Nat → List Int} {vR vQ : Value} {nc : Nat} (h : WF w lo f f1 ls vR vQ nc) (j : Nat) {g n c : Nat} (e : f j = .slice (some ⟨g, 0, none⟩) n c) (i v : Int) : WF (w.setCell ⟨g, i.toNat, none⟩ (.int .i64 v)) lo f f1 (up ls j ((ls j).set i.toNat v)) vR vQ nc := by
  obtain ⟨x, hr, e2⟩ := h.r
  obtain ⟨qs, hq, el, eq⟩ := h.q
  obtain ⟨cur, hc⟩ := h.ms.block e
  exact ⟨h.ms.put j e i v, ⟨x, outer_far hr hc (by decide) _ _, e2⟩, ⟨qs, outer_far hq hc (by decide) _ _, el, eq⟩, h.ne⟩
theorem WF.at {w : World} {lo : Nat} {f f1 : Nat → Value} {ls : Nat → List Int} {vR vQ : Value} {nc : Nat} (h : WF w lo f f1 ls vR vQ nc) (j : Nat) (i : Int) (h0 : 0 ≤ i) (h1 : i < ((ls j).length : Int)) : ∃ g c, f j = .slice (some ⟨g, 0, none⟩) (ls j).length c ∧ w.cell? ⟨g, i.toNat, none⟩ = some (.int .i64 (rd (ls j) i)) ∧ w.frozen? ⟨g, i.toNat, none⟩ = false := row_at (h.ms.row j) i h0 h1
theorem WF.farRow {w : World} {lo : Nat} {g0 f : Nat → Value} {ls : Nat → List Int} {vR vQ : Value} {nc : Nat} (h : WF w lo g0 f ls vR vQ nc) {g t : Nat} {cells : Array Value} (hb : w.heap[g]? = some (.cells cells t (0, 0))) (ht : 3 ≠ t) (ht2 : 23 ≠ t) (cs : Array Value) : WF (w.setRow g cs) lo g0 f ls vR vQ nc := by
  obtain ⟨x, hr, e2⟩ := h.r
  obtain ⟨qs, hq, el, eq⟩ := h.q
  exact ⟨h.ms.farRow hb ht cs, ⟨x, outer_farRow hr hb ht2 cs, e2⟩, ⟨qs, outer_farRow hq hb ht2 cs, el, eq⟩, h.ne⟩
def st (L : Nat → List Int) (j : Nat) (x v : Int) : Nat → List Int := up L j ((L j).set x.toNat v)
/-- What is seen of the rows: the same, or a row without its first. -/
def Seen (g f : Nat → Value) (ls lsS : Nat → List Int) : Prop := ∀ j, (f j = g j ∧ lsS j = ls j) ∨ (12 ≤ j ∧ ∃ k n c x A, g j = .slice (some ⟨k, 0, none⟩) n c ∧ f j = .slice A (n - 1) (c - 1) ∧ (A = some ⟨k, 1, none⟩ ∨ n = 1) ∧ ls j = x :: lsS j)
theorem Seen.refl (g : Nat → Value) (ls : Nat → List Int) : Seen g g ls ls := fun _ => .inl ⟨rfl, rfl⟩
theorem IS.cut {w : World} {k n c : Nat} {x : Int} {l : List Int} (h : IS w (.slice (some ⟨k, 0, none⟩) n c) (x :: l)) : IS w (.slice (some ⟨k, 1, none⟩) (n - 1) (c - 1)) l := by
  obtain ⟨A, c', e, hc, hC⟩ := h
  injection e with e1 e2 e3
  subst e1 e3
  rw [List.length_cons] at e2 hc
  subst e2
  refine ⟨some ⟨k, 1, none⟩, c - 1, rfl, by omega, ?_⟩
  have hr := Kd.reads_of_C (d := (0 : Int)) hC
  refine Kd.C_of_reads (d := (0 : Int)) ⟨rfl, by have := hr.2.1; rw [List.length_cons] at this; omega, fun hn => ⟨_, rfl, fun j hj => ?_⟩⟩
  obtain ⟨ad, e, hc1⟩ := hr.2.2 (by rw [List.length_cons]; omega)
  injection e with e
  subst e
  have h1 := hc1 (j + 1) (by rw [List.length_cons]; omega)
  have ea : ∀ o m, (⟨k, o, none⟩ : Addr).add m = ⟨k, o + m, none⟩ := by
    intro o m
    unfold Addr.add; split <;> simp_all
  rw [ea] at h1 ⊢
  rw [show 1 + j = 0 + (j + 1) by omega]
  simpa using h1
theorem IS.nil (w : World) (A : Option Addr) (c : Nat) : IS w (.slice A 0 c) [] := ⟨A, c, rfl, Nat.zero_le _, Kd.C_of_reads (d := (0 : Int)) ⟨rfl, by simp, fun h => absurd h (Nat.lt_irrefl 0)⟩⟩
theorem WF.rs {w : World} {lo : Nat} {g f : Nat → Value} {ls lsS : Nat → List Int} {vR vQ : Value} {nc : Nat} (h : WF w lo g f ls vR vQ nc) (hs : Seen g f ls lsS) : RS w f lsS vR vQ nc := by
  obtain ⟨x, hr, e2⟩ := h.r
  obtain ⟨qs, hq, rfl, eq⟩ := h.q
  refine RS.mk' (fun j => ?_) hr (by rcases hs 2 with h2 | h2; exact h2.1.trans e2; omega) hq eq
  have hj := IS.ofMS h.ms j
  rcases hs j with ⟨h1, h2⟩ | ⟨_, k, n, c, y, A, h1, h2, h4, h3⟩
  · rw [h1, h2]; exact hj
  · rw [h1, h3] at hj
    rw [h2]
    rcases h4 with rfl | rfl
    · exact hj.cut
    · have hl : lsS j = [] := by
        obtain ⟨A', c', e, _⟩ := hj
        injection e with _ e2
        rw [List.length_cons] at e2
        exact List.eq_nil_of_length_eq_zero (by omega)
      rw [hl]
      exact IS.nil _ _ _
/-- Blocks that are neither numbers nor rows of rows stay. -/
def KEEP (w w' : World) : Prop := ∀ (k : Nat) (cs : Array Value) (t : TypeId), w.heap[k]? = some (.cells cs t (0, 0)) → t ≠ 3 → t ≠ 23 → w'.heap[k]? = some (.cells cs t (0, 0))
theorem KEEP.refl (w : World) : KEEP w w := fun _ _ _ h _ _ => h
theorem KEEP.trans {a b c : World} (h : KEEP a b) (k : KEEP b c) : KEEP a c := fun q cs t h1 h2 h3 => k q cs t (h q cs t h1 h2 h3) h2 h3
theorem KEEP.below {a b c : World} (h : KEEP a b) (hb : Below b.heap.size b c) : KEEP a c := fun q cs t h1 h2 h3 => blk_below (h q cs t h1 h2 h3) hb
theorem KEEP.set {a b : World} (h : KEEP a b) {g t : Nat} {cs : Array Value} (hg : b.heap[g]? = some (.cells cs t (0, 0))) (ht : t = 3 ∨ t = 23) (i : Nat) (u : Value) : KEEP a (b.setCell ⟨g, i, none⟩ u) := fun q c t' h1 h2 h3 => blk_far (h q c t' h1 h2 h3) (blk_ne (h q c t' h1 h2 h3) hg (by rcases ht with rfl | rfl; exact h2; exact h3)) u
theorem KEEP.new {a b : World} (h : KEEP a b) {g : Nat} (hg : a.heap.size ≤ g) (i : Nat) (u : Value) : KEEP a (b.setCell ⟨g, i, none⟩ u) := fun q c t' h1 h2 h3 => blk_far (h q c t' h1 h2 h3) (by have := blk_lt h1; show q ≠ g; omega) u
theorem KEEP.newRow {a b : World} (h : KEEP a b) {g : Nat} (hg : a.heap.size ≤ g) (cs : Array Value) : KEEP a (b.setRow g cs) := fun q c t' h1 h2 h3 => (setRow_other b g q cs (by have := blk_lt h1; omega)).trans (h q c t' h1 h2 h3)
theorem KEEP.grown {a b c : World} (h : KEEP a b) {row : Option Nat} (hg : b.grownBy c row) (hr : ∀ k, row = some k → ∃ cs t, b.heap[k]? = some (.cells cs t (0, 0)) ∧ (t = 3 ∨ t = 23)) : KEEP a c := fun q cs t h1 h2 h3 => blk_grown (h q cs t h1 h2 h3) hg (fun e => by
  obtain ⟨c2, t2, h4, h5⟩ := hr q e.symm
  have h6 := h q cs t h1 h2 h3
  exact blk_ne h6 h4 (by rcases h5 with rfl | rfl; exact h2; exact h3) rfl)
/-- What is known in the midst of Step, sync and taken. -/
structure KS (w0 W : World) (lo b4 b6 b7 b8 b9 : Nat) (P : PV) (i : S33) (nc : Nat) (g f : Nat → Value) (ls : Nat → List Int) (vR vQ : Value) (tr : Int) (ev : EvV) : Prop where
  ws : WF W lo g f ls vR vQ nc
  x4 : Box W b4 P g vR vQ tr
  x6 : W.heap[b6]? = some (.cells (iCells i) 33 (0, 0))
  x7 : W.heap[b7]? = some (.cells (eCells ev) 75 (0, 0))
  x8 : W.heap[b8]? = some (.cells zCells 70 (0, 0))
  x9 : W.heap[b9]? = some (.cells zE 75 (0, 0))
  be : Below lo w0 W
  n48 : b4 ≠ b8
  n79 : b7 ≠ b9
  n89 : b8 ≠ b9
  l4 : w0.heap.size ≤ b4
  l7 : w0.heap.size ≤ b7
  l8 : w0.heap.size ≤ b8
  l9 : w0.heap.size ≤ b9
  lo0 : lo ≤ w0.heap.size
  kp : KEEP w0 W
section
variable {w0 W W1 : World} {lo b4 b6 b7 b8 b9 : Nat} {P : PV} {i : S33} {nc : Nat} {g f : Nat → Value} {ls : Nat → List Int} {vR vQ : Value} {tr : Int} {ev : EvV}
theorem KS.below (h : KS w0 W lo b4 b6 b7 b8 b9 P i nc g f ls vR vQ tr ev) (hb : Below W.heap.size W W1) : KS w0 W1 lo b4 b6 b7 b8 b9 P i nc g f ls vR vQ tr ev :=
  ⟨h.ws.below hb, blk_below h.x4 hb, blk_below h.x6 hb, blk_below h.x7 hb, blk_below h.x8 hb, blk_below h.x9 hb, h.be.trans (hb.mono (Nat.le_trans (Nat.le_trans h.lo0 h.l4) (Nat.le_of_lt (blk_lt h.x4)))), h.n48, h.n79, h.n89, h.l4, h.l7, h.l8, h.l9, h.lo0, h.kp.below hb⟩
theorem KS.put (h : KS w0 W lo b4 b6 b7 b8 b9 P i nc g f ls vR vQ tr ev) (j : Nat) {k n c : Nat} (e : g j = .slice (some ⟨k, 0, none⟩) n c) (x v : Int) : KS w0 (W.setCell ⟨k, x.toNat, none⟩ (.int .i64 v)) lo b4 b6 b7 b8 b9 P i nc g f (st ls j x v) vR vQ tr ev := by
  obtain ⟨cur, hc⟩ := h.ws.ms.block e
  exact ⟨h.ws.put j e x v, blk_far h.x4 (blk_ne h.x4 hc (by decide)) _, blk_far h.x6 (blk_ne h.x6 hc (by decide)) _, blk_far h.x7 (blk_ne h.x7 hc (by decide)) _, blk_far h.x8 (blk_ne h.x8 hc (by decide)) _, blk_far h.x9 (blk_ne h.x9 hc (by decide)) _, h.be.setCell (h.ws.ms.lo_le e) _, h.n48, h.n79, h.n89, h.l4, h.l7, h.l8, h.l9, h.lo0, h.kp.set hc (.inl rfl) _ _⟩
theorem KS.evs (h : KS w0 W lo b4 b6 b7 b8 b9 P i nc g f ls vR vQ tr ev) (c : Nat) (u : Value) {ev' : EvV} (e : (eCells ev).setIfInBounds c u = eCells ev') : KS w0 (W.setCell ⟨b7, c, none⟩ u) lo b4 b6 b7 b8 b9 P i nc g f ls vR vQ tr ev' :=
  ⟨h.ws.far h.x7 (by decide) (by decide) c u, blk_far h.x4 (blk_ne h.x4 h.x7 (by decide)) _, blk_far h.x6 (blk_ne h.x6 h.x7 (by decide)) _, blk_put h.x7 c u e, blk_far h.x8 (blk_ne h.x8 h.x7 (by decide)) _, blk_far h.x9 (Ne.symm h.n79) _, h.be.setCell (Nat.le_trans h.lo0 h.l7) _, h.n48, h.n79, h.n89, h.l4, h.l7, h.l8, h.l9, h.lo0, h.kp.new h.l7 _ _⟩
theorem KS.trap (h : KS w0 W lo b4 b6 b7 b8 b9 P i nc g f ls vR vQ tr ev) (v : Int) : KS w0 (W.setCell ⟨b4, 18, none⟩ (.int .i64 v)) lo b4 b6 b7 b8 b9 P i nc g f ls vR vQ v ev :=
  ⟨h.ws.far h.x4 (by decide) (by decide) 18 _, Box.set18 h.x4 v, blk_far h.x6 (blk_ne h.x6 h.x4 (by decide)) _, blk_far h.x7 (blk_ne h.x7 h.x4 (by decide)) _, blk_far h.x8 (Ne.symm h.n48) _, blk_far h.x9 (blk_ne h.x9 h.x4 (by decide)) _, h.be.setCell (Nat.le_trans h.lo0 h.l4) _, h.n48, h.n79, h.n89, h.l4, h.l7, h.l8, h.l9, h.lo0, h.kp.new h.l4 _ _⟩
theorem KS.i0 (h : KS w0 W lo b4 b6 b7 b8 b9 P i nc g f ls vR vQ tr ev) : W.cell? ⟨b6, 0, none⟩ = some (.int .u8 i.f0) := blk_cell h.x6 0
theorem KS.i1 (h : KS w0 W lo b4 b6 b7 b8 b9 P i nc g f ls vR vQ tr ev) : W.cell? ⟨b6, 1, none⟩ = some (.int .i64 i.f1) := blk_cell h.x6 1
theorem KS.i2 (h : KS w0 W lo b4 b6 b7 b8 b9 P i nc g f ls vR vQ tr ev) : W.cell? ⟨b6, 2, none⟩ = some (.int .i64 i.f2) := blk_cell h.x6 2
theorem KS.i3 (h : KS w0 W lo b4 b6 b7 b8 b9 P i nc g f ls vR vQ tr ev) : W.cell? ⟨b6, 3, none⟩ = some (.int .i64 i.f3) := blk_cell h.x6 3
theorem KS.e3 (h : KS w0 W lo b4 b6 b7 b8 b9 P i nc g f ls vR vQ tr ev) : W.cell? ⟨b7, 3, none⟩ = some (.int .i64 ev.b) ∧ W.frozen? ⟨b7, 3, none⟩ = false := ⟨blk_cell h.x7 3, blk_frozen h.x7 3⟩
theorem KS.e4 (h : KS w0 W lo b4 b6 b7 b8 b9 P i nc g f ls vR vQ tr ev) : W.cell? ⟨b7, 4, none⟩ = some (.int .i64 ev.v) ∧ W.frozen? ⟨b7, 4, none⟩ = false := ⟨blk_cell h.x7 4, blk_frozen h.x7 4⟩
theorem KS.e5 (h : KS w0 W lo b4 b6 b7 b8 b9 P i nc g f ls vR vQ tr ev) : W.cell? ⟨b7, 5, none⟩ = some (.int .i64 ev.m) ∧ W.frozen? ⟨b7, 5, none⟩ = false := ⟨blk_cell h.x7 5, blk_frozen h.x7 5⟩
theorem KS.trc (h : KS w0 W lo b4 b6 b7 b8 b9 P i nc g f ls vR vQ tr ev) : W.cell? ⟨b4, 18, none⟩ = some (.int .i64 tr) ∧ W.frozen? ⟨b4, 18, none⟩ = false := ⟨blk_cell h.x4 18, blk_frozen h.x4 18⟩
/-- The row of what is told has grown. -/
theorem KS.told (h : KS w0 W lo b4 b6 b7 b8 b9 P i nc g f ls vR vQ tr ev) {W2 : World} {v : Value} {l : List Int} {ok : Nat → Prop} (hr : Kd.R (Kd.int .i64) 3 W2 lo ok v l) (hg : W.grownBy W2 (g 11).ownBlock) (hat : v.ownBlock = (g 11).ownBlock ∨ ∃ b, v.ownBlock = some b ∧ W.heap.size ≤ b) : KS w0 (W2.setCell ⟨b4, 17, none⟩ v) lo b4 b6 b7 b8 b9 P i nc (up g 11 v) (up f 11 v) (up ls 11 l) vR vQ tr ev := by
  have hnb : ∀ {k t : Nat} {cs : Array Value}, W.heap[k]? = some (.cells cs t (0, 0)) → 3 ≠ t → some k ≠ (g 11).ownBlock := fun {k t cs} hk ht => Kd.R_ne (h.ws.ms.row 11) hk ht
  have y4 : Box W2 b4 P g vR vQ tr := blk_grown h.x4 hg (hnb h.x4 (by decide))
  have y6 := blk_grown h.x6 hg (hnb h.x6 (by decide))
  have y7 := blk_grown h.x7 hg (hnb h.x7 (by decide))
  have y8 := blk_grown h.x8 hg (hnb h.x8 (by decide))
  have y9 := blk_grown h.x9 hg (hnb h.x9 (by decide))
  have hlo : lo ≤ W.heap.size := Nat.le_trans (Nat.le_trans h.lo0 h.l4) (Nat.le_of_lt (blk_lt h.x4))
  obtain ⟨x, hx, e2⟩ := h.ws.r
  obtain ⟨qs, hq, el, eq⟩ := h.ws.q
  have ho : ∀ {u : Value} {xs : List (Option Addr × Nat × Nat)}, Outer W lo u xs → Outer W2 lo u xs := fun {u xs} hu => Kd.R_grown hu hg (fun k hk c => by
    obtain ⟨c1, h1⟩ := own_block hu hk
    obtain ⟨c2, h2⟩ := own_block (h.ws.ms.row 11) c.symm
    exact blk_ne h1 h2 (by decide) rfl)
  have hw : WF W2 lo (up g 11 v) (up f 11 v) (up ls 11 l) vR vQ nc := ⟨h.ws.ms.grow 11 hr hg hat, ⟨x, ho hx, by rw [up_ne _ _ _ (by decide)]; exact e2⟩, ⟨qs, ho hq, el, fun k hk => by rw [up_ne _ _ _ (by omega)]; exact eq k hk⟩, h.ws.ne⟩
  exact ⟨hw.far y4 (by decide) (by decide) 17 _, Box.set17 y4 v, blk_far y6 (blk_ne y6 y4 (by decide)) _, blk_far y7 (blk_ne y7 y4 (by decide)) _, blk_far y8 (Ne.symm h.n48) _, blk_far y9 (blk_ne y9 y4 (by decide)) _, (h.be.grown hg hlo (fun k hk => Kd.R_base (h.ws.ms.row 11) k hk)).setCell (Nat.le_trans h.lo0 h.l4) _, h.n48, h.n79, h.n89, h.l4, h.l7, h.l8, h.l9, h.lo0, (h.kp.grown hg (fun k hk => by obtain ⟨c1, h1⟩ := own_block (h.ws.ms.row 11) hk; exact ⟨c1, 3, h1, .inl rfl⟩)).new h.l4 _ _⟩
/-- A channel's row has grown; the row of channels does not show it yet. -/
theorem KS.growQ (h : KS w0 W lo b4 b6 b7 b8 b9 P i nc g f ls vR vQ tr ev) (q : Nat) {W2 : World} {v : Value} {l : List Int} {ok : Nat → Prop} (hr : Kd.R (Kd.int .i64) 3 W2 lo ok v l) (hg : W.grownBy W2 (g (12 + q)).ownBlock) (hat : v.ownBlock = (g (12 + q)).ownBlock ∨ ∃ b, v.ownBlock = some b ∧ W.heap.size ≤ b) : KS w0 W2 lo b4 b6 b7 b8 b9 P i nc (up g (12 + q) v) f (up ls (12 + q) l) vR vQ tr ev := by
  have hnb : ∀ {k t : Nat} {cs : Array Value}, W.heap[k]? = some (.cells cs t (0, 0)) → 3 ≠ t → some k ≠ (g (12 + q)).ownBlock := fun {k t cs} hk ht => Kd.R_ne (h.ws.ms.row (12 + q)) hk ht
  have y4 : Box W2 b4 P g vR vQ tr := blk_grown h.x4 hg (hnb h.x4 (by decide))
  have y6 := blk_grown h.x6 hg (hnb h.x6 (by decide))
  have y7 := blk_grown h.x7 hg (hnb h.x7 (by decide))
  have y8 := blk_grown h.x8 hg (hnb h.x8 (by decide))
  have y9 := blk_grown h.x9 hg (hnb h.x9 (by decide))
  have hlo : lo ≤ W.heap.size := Nat.le_trans (Nat.le_trans h.lo0 h.l4) (Nat.le_of_lt (blk_lt h.x4))
  obtain ⟨x, hx, e2⟩ := h.ws.r
  obtain ⟨qs, hq, el, eq⟩ := h.ws.q
  have ho : ∀ {u : Value} {xs : List (Option Addr × Nat × Nat)}, Outer W lo u xs → Outer W2 lo u xs := fun {u xs} hu => Kd.R_grown hu hg (fun k hk c => by
    obtain ⟨c1, h1⟩ := own_block hu hk
    obtain ⟨c2, h2⟩ := own_block (h.ws.ms.row (12 + q)) c.symm
    exact blk_ne h1 h2 (by decide) rfl)
  have hw : WF W2 lo (up g (12 + q) v) f (up ls (12 + q) l) vR vQ nc := ⟨h.ws.ms.grow (12 + q) hr hg hat, ⟨x, ho hx, by rw [up_ne _ _ _ (by omega)]; exact e2⟩, ⟨qs, ho hq, el, eq⟩, h.ws.ne⟩
  exact ⟨hw, by unfold Box; rw [sCells_up P g (12 + q) v vR vQ tr (.inr (by omega))]; exact y4, y6, y7, y8, y9, h.be.grown hg hlo (fun k hk => Kd.R_base (h.ws.ms.row (12 + q)) k hk), h.n48, h.n79, h.n89, h.l4, h.l7, h.l8, h.l9, h.lo0, h.kp.grown hg (fun k hk => by obtain ⟨c1, h1⟩ := own_block (h.ws.ms.row (12 + q)) hk; exact ⟨c1, 3, h1, .inl rfl⟩)⟩
end
theorem results3 {fn : Func} {p q r : Tmp} {ty ty2 : TypeId} {a : Act} {w : World} {Post : Ending → World → Prop} {Pp : Program} (h : fn.results = #[.cell p ty, .cell q ty2, .tmp r]) (g g2 : Nat) (cs cs2 : Array Value) (b : Bool)
    (h1 : (loadVar ty ⟨g, 0, none⟩).run Pp w = .ok (.agg cs) w) (h2 : (loadVar ty2 ⟨g2, 0, none⟩).run Pp w = .ok (.agg cs2) w)
    (hp : a.tmps.getD p undef = .pointer (some ⟨g, 0, none⟩)) (hq : a.tmps.getD q undef = .pointer (some ⟨g2, 0, none⟩)) (hr : a.tmps.getD r undef = .bool b) (hdf : a.defers = [])
    (hpost : Post (.returned (.tuple #[.agg cs, .agg cs2, .bool b])) w) : bodyPost Pp fn Post .ret a w := by
  have hp' : a.tmps[p]?.getD undef = .pointer (some ⟨g, 0, none⟩) := by simpa using hp
  have hq' : a.tmps[q]?.getD undef = .pointer (some ⟨g2, 0, none⟩) := by simpa using hq
  have hr' : a.tmps[r]?.getD undef = .bool b := by simpa using hr
  refine bodyPost_ret (v := .tuple #[.agg cs, .agg cs2, .bool b]) ?_ hdf hpost
  simp [results, h, hp', hq', hr', asAddr, h1, h2]
theorem size75' : (Try.prog.info? 75).map (·.size) = some 6 := by kernel_rfl
theorem eOne (e : EvV) : (eCells e).all (·.oneCell') = true := by
  have hi : ∀ k n, (Value.int k n).oneCell' = true := fun _ _ => rfl
  simp [eCells, hi]
/-- What Step, sync and taken give: a state, an event of the one thread, yes. -/
def RetS (w : World) (lo nc : Nat) (P : PV) (ls' : Nat → List Int) (tr' : Int) (e : Ending) (w' : World) : Prop := ∃ g' f' lsO vR' vQ' ev', e = .returned (.tuple #[.agg (sCells P f' vR' vQ' tr'), .agg (eCells ev'), .bool true]) ∧ ev'.t = 0 ∧ WF w' lo g' f' lsO vR' vQ' nc ∧ Seen g' f' lsO ls' ∧ Below lo w w' ∧ KEEP w w'
/-- The end of all three: state and event are handed out. -/
theorem KS.fin {w0 W : World} {lo b4 b6 b7 b8 b9 : Nat} {P : PV} {i : S33} {nc : Nat} {g f : Nat → Value} {ls lsS : Nat → List Int} {vR vQ : Value} {tr : Int} {ev : EvV} (h : KS w0 W lo b4 b6 b7 b8 b9 P i nc g f ls vR vQ tr ev) (ht : ev.t = 0) (hs : Seen g f ls lsS) (hfg : sCells P f vR vQ tr = sCells P g vR vQ tr) :
    RetS w0 lo nc P lsS tr (.returned (.tuple #[.agg (sCells P g vR vQ tr), .agg (eCells ev), .bool true])) ((W.setRow b8 (sCells P g vR vQ tr)).setRow b9 (eCells ev)) ∧
    (loadVar 70 ⟨b8, 0, none⟩).run Try.prog ((W.setRow b8 (sCells P g vR vQ tr)).setRow b9 (eCells ev)) = .ok (.agg (sCells P g vR vQ tr)) ((W.setRow b8 (sCells P g vR vQ tr)).setRow b9 (eCells ev)) ∧
    (loadVar 75 ⟨b9, 0, none⟩).run Try.prog ((W.setRow b8 (sCells P g vR vQ tr)).setRow b9 (eCells ev)) = .ok (.agg (eCells ev)) ((W.setRow b8 (sCells P g vR vQ tr)).setRow b9 (eCells ev)) := by
  have y9 := (setRow_other W b8 b9 (sCells P g vR vQ tr) (Ne.symm h.n89)).trans h.x9
  have y8 := setRow_heap W b8 _ (sCells P g vR vQ tr) 70 (0, 0) h.x8
  have z8 := (setRow_other (W.setRow b8 (sCells P g vR vQ tr)) b9 b8 (eCells ev) h.n89).trans y8
  have z9 := setRow_heap (W.setRow b8 (sCells P g vR vQ tr)) b9 _ (eCells ev) 75 (0, 0) y9
  refine ⟨⟨g, f, ls, vR, vQ, ev, by rw [hfg], ht, (h.ws.farRow h.x8 (by decide) (by decide) _).farRow y9 (by decide) (by decide) _, hs, ?_, (h.kp.newRow h.l8 _).newRow h.l9 _⟩, run_loadVar_row _ b8 70 70 _ (0, 0) _ z8 Try.underlying70 rfl size70, run_loadVar_row _ b9 75 75 _ (0, 0) _ z9 Try.underlying75 rfl size75⟩
  have r1 : Below lo W (W.setRow b8 (sCells P g vR vQ tr)) := ⟨rfl, rfl, rfl, by simp, fun k hk => setRow_other W b8 k _ (by have := h.l8; have := h.lo0; omega)⟩
  have r2 : Below lo (W.setRow b8 (sCells P g vR vQ tr)) ((W.setRow b8 (sCells P g vR vQ tr)).setRow b9 (eCells ev)) := ⟨rfl, rfl, rfl, by simp, fun k hk => setRow_other _ b9 k _ (by have := h.l9; have := h.lo0; omega)⟩
  exact (h.be.trans r1).trans r2
section
variable {w W1 W2 W3 W4 W5 : World} {lo b4 b6 b7 b8 b9 : Nat} {P : PV} {i : S33} {nc : Nat} {g f : Nat → Value} {ls : Nat → List Int} {vR vQ : Value} {tr : Int} {ev : EvV}
theorem ks_begin (h : WF w lo g f ls vR vQ nc) (hlo : lo ≤ w.heap.size) (e4 : b4 = w.heap.size) (x4 : W1.heap[b4]? = some (.cells (sCells P g vR vQ tr) 70 (0, 0))) (h1 : Below w.heap.size w W1) (e6 : b6 = W1.heap.size) (x6 : W2.heap[b6]? = some (.cells (iCells i) 33 (0, 0))) (h2 : Below W1.heap.size W1 W2) (e7 : b7 = W2.heap.size) (x7 : W3.heap[b7]? = some (.cells (eCells ev) 75 (0, 0))) (h3 : Below W2.heap.size W2 W3)
    (e8 : b8 = W3.heap.size) (x8 : W4.heap[b8]? = some (.cells zCells 70 (0, 0))) (h4 : Below W3.heap.size W3 W4) (e9 : b9 = W4.heap.size) (x9 : W5.heap[b9]? = some (.cells zE 75 (0, 0))) (h5 : Below W4.heap.size W4 W5) : KS w W5 lo b4 b6 b7 b8 b9 P i nc g f ls vR vQ tr ev := by
  have s1 := h1.size; have s2 := h2.size; have s3 := h3.size; have s4 := h4.size
  have t4 := blk_lt x4; have t7 := blk_lt x7; have t8 := blk_lt x8
  have k25 := below_step h4 h5
  have k35 := below_step h3 k25
  have k15 := below_step h2 k35
  exact ⟨h.below (below_step h1 k15), blk_below x4 k15, blk_below x6 k35, blk_below x7 k25, blk_below x8 h5, x9, (below_step h1 k15).mono hlo, by omega, by omega, by omega, by omega, by omega, by omega, by omega, hlo, (KEEP.refl w).below (below_step h1 k15)⟩
theorem KS.vrc (h : KS w W1 lo b4 b6 b7 b8 b9 P i nc g f ls vR vQ tr ev) : W1.cell? ⟨b4, 9, none⟩ = some vR := Box.at9 h.x4
theorem KS.r2c (h : KS w W1 lo b4 b6 b7 b8 b9 P i nc g f ls vR vQ tr ev) {k c : Nat} (e : vR = .slice (some ⟨k, 0, none⟩) 1 c) : W1.cell? ⟨k, 0, none⟩ = some (g 2) := by
  obtain ⟨x, hr, e2⟩ := h.ws.r
  obtain ⟨k', c', e', h1, _⟩ := outer_at hr 0 (Int.le_refl _) (by simp)
  rw [e] at e'
  injection e' with e3
  injection e3 with e3
  injection e3 with e3
  subst e3
  rw [e2]
  exact h1
theorem KS.rc (h : KS w W1 lo b4 b6 b7 b8 b9 P i nc g f ls vR vQ tr ev) (j : Nat) {k n c : Nat} (e : g j = .slice (some ⟨k, 0, none⟩) n c) (x : Int) (h0 : 0 ≤ x) (h1 : x < (n : Int)) : W1.cell? ⟨k, x.toNat, none⟩ = some (.int .i64 (rd (ls j) x)) ∧ W1.frozen? ⟨k, x.toNat, none⟩ = false := by
  have hn : n = (ls j).length := by
    obtain ⟨A, c', e2⟩ := row_len (h.ws.ms.row j)
    rw [e] at e2
    injection e2
  obtain ⟨k', c', e', h2⟩ := h.ws.at j x h0 (by rw [← hn]; exact h1)
  rw [e] at e'
  injection e' with e3
  injection e3 with e3
  injection e3 with e3
  subst e3
  exact h2
theorem KS.drew (h : KS w W1 lo b4 b6 b7 b8 b9 P i nc g f ls vR vQ tr ev) : KS w W1.drew lo b4 b6 b7 b8 b9 P i nc g f ls vR vQ tr ev := h.below (below_drew (Below.refl _ _))
end
theorem WF.qc {w : World} {lo : Nat} {g f : Nat → Value} {ls : Nat → List Int} {vR vQ : Value} {nc : Nat} (h : WF w lo g f ls vR vQ nc) (x : Int) (h0 : 0 ≤ x) (h1 : x < (nc : Int)) : ∃ k c, vQ = .slice (some ⟨k, 0, none⟩) nc c ∧ w.cell? ⟨k, x.toNat, none⟩ = some (f (12 + x.toNat)) ∧ w.frozen? ⟨k, x.toNat, none⟩ = false := by
  obtain ⟨qs, hq, rfl, eq⟩ := h.q
  obtain ⟨k, c, e, h2, h3⟩ := outer_at hq x h0 h1
  exact ⟨k, c, e, by rw [eq x.toNat (by omega)]; exact h2, h3⟩
theorem KS.qc {w W : World} {lo b4 b6 b7 b8 b9 : Nat} {P : PV} {i : S33} {nc : Nat} {g f : Nat → Value} {ls : Nat → List Int} {vR vQ : Value} {tr : Int} {ev : EvV} (h : KS w W lo b4 b6 b7 b8 b9 P i nc g f ls vR vQ tr ev) {k n c : Nat} (e : vQ = .slice (some ⟨k, 0, none⟩) n c) (x : Int) (h0 : 0 ≤ x) (h1 : x < (nc : Int)) : W.cell? ⟨k, x.toNat, none⟩ = some (f (12 + x.toNat)) ∧ W.frozen? ⟨k, x.toNat, none⟩ = false := by
  obtain ⟨k', c', e', h2⟩ := h.ws.qc x h0 h1
  rw [e] at e'
  injection e' with e3
  injection e3 with e3
  injection e3 with e3
  subst e3
  exact h2
theorem getD_set_ne {α : Type} (l : List α) (a k : Nat) (v z : α) : (l.set a v).getD k z = if a = k ∧ k < l.length then v else l.getD k z := by
  simp only [List.getD_eq_getElem?_getD, List.getElem?_set]
  by_cases h : a = k
  · subst h
    by_cases h2 : a < l.length
    · simp [h2]
    · simp [h2]
  · simp [h]
/-- A cell of the row of channels is another one now. -/
theorem KS.qset {w W : World} {lo b4 b6 b7 b8 b9 : Nat} {P : PV} {i : S33} {nc : Nat} {g f : Nat → Value} {ls : Nat → List Int} {vR vQ : Value} {tr : Int} {ev : EvV} (h : KS w W lo b4 b6 b7 b8 b9 P i nc g f ls vR vQ tr ev) {k n c : Nat} (e : vQ = .slice (some ⟨k, 0, none⟩) n c) (x : Int) (h0 : 0 ≤ x) (h1 : x < (nc : Int)) (A : Option Addr) (m c2 : Nat) :
    KS w (W.setCell ⟨k, x.toNat, none⟩ (.slice A m c2)) lo b4 b6 b7 b8 b9 P i nc g (up f (12 + x.toNat) (.slice A m c2)) ls vR vQ tr ev := by
  obtain ⟨qs, hq, el, eq⟩ := h.ws.q
  obtain ⟨y, hr, e2⟩ := h.ws.r
  obtain ⟨cur, hc⟩ := own_block hq (k := k) (by rw [e]; rfl)
  have hq' := hq
  rw [e] at hq'
  have hp : Outer (W.setCell ⟨k, x.toNat, none⟩ (.slice A m c2)) lo vQ (qs.set x.toNat (A, m, c2)) := by
    have := (Kd.R_putg hq' x (A, m, c2)).1
    rw [← e] at this
    exact R_self this
  have hlo : lo ≤ k := Kd.R_base hq k (by rw [e]; rfl)
  have hnR : ∀ q, vR.ownBlock = some q → q ≠ k := fun q hq2 c => h.ws.ne q hq2 (by rw [e, c]; rfl)
  refine ⟨⟨h.ws.ms.far hc (by decide) _ _, ⟨y, Kd.R_step hr (fun q hk _ => Below.heap_setCell W _ _ q (hnR q hk)), e2⟩, ⟨qs.set x.toNat (A, m, c2), hp, by rw [List.length_set]; exact el, fun q hq2 => ?_⟩, h.ws.ne⟩, blk_far h.x4 (blk_ne h.x4 hc (by decide)) _, blk_far h.x6 (blk_ne h.x6 hc (by decide)) _, blk_far h.x7 (blk_ne h.x7 hc (by decide)) _, blk_far h.x8 (blk_ne h.x8 hc (by decide)) _, blk_far h.x9 (blk_ne h.x9 hc (by decide)) _, h.be.setCell hlo _, h.n48, h.n79, h.n89, h.l4, h.l7, h.l8, h.l9, h.lo0, h.kp.set hc (.inr rfl) _ _⟩
  rw [getD_set_ne]
  by_cases hx : x.toNat = q
  · subst hx
    rw [up_same, if_pos ⟨rfl, by omega⟩]
    rfl
  · rw [if_neg (fun c => hx c.1), up_ne _ _ _ (by omega)]
    exact eq q hq2
theorem seen_cut {g : Nat → Value} {L : Nat → List Int} {q k n c : Nat} {A : Option Addr} {y : Int} {t : List Int} (e : g (12 + q) = .slice (some ⟨k, 0, none⟩) n c) (hA : A = some ⟨k, 1, none⟩ ∨ n = 1) (el : L (12 + q) = y :: t) : Seen g (up g (12 + q) (.slice A (n - 1) (c - 1))) L (up L (12 + q) t) := by
  intro j
  by_cases hj : j = 12 + q
  · subst hj
    rw [up_same, up_same]
    exact .inr ⟨by omega, k, n, c, y, A, e, rfl, hA, el⟩
  · rw [up_ne _ _ _ hj, up_ne _ _ _ hj]
    exact .inl ⟨rfl, rfl⟩
theorem st_up (L : Nat → List Int) (q : Nat) (t : List Int) (j : Nat) (x v : Int) (hj : j < 12) : up (st L j x v) (12 + q) t = st (up L (12 + q) t) j x v := by
  funext k
  unfold st
  rw [up_ne _ _ _ (show j ≠ 12 + q by omega)]
  by_cases h1 : k = 12 + q
  · subst h1
    rw [up_same, up_ne _ _ _ (by omega), up_same]
  · rw [up_ne _ _ _ h1]
    by_cases h2 : k = j
    · subst h2; rw [up_same, up_same]
    · rw [up_ne _ _ _ h2, up_ne _ _ _ h2, up_ne _ _ _ h1]
theorem st_at (L : Nat → List Int) (j : Nat) (x v : Int) {k : Nat} (h : k ≠ j) : st L j x v k = L k := up_ne _ _ _ h
theorem cut_one (k n c : Nat) (h1 : 1 ≤ n) (hc : n ≤ c) : ∃ A, (A = some (⟨k, 1, none⟩ : Addr) ∨ n = 1) ∧ ∀ W : World, (Instr.slice 23 (.slice (some ⟨k, 0, none⟩) n c) (some (.int .i64 1)) none none).run Try.prog W = .ok (.slice A (n - 1) (c - 1)) W := by
  obtain ⟨i0, hi0, _, hsz, _⟩ := info_parts info3
  refine ⟨_, ?_, cut_from (P := Try.prog) 23 3 .i64 Try.underlying23 hi0 1 hsz (some ⟨k, 0, none⟩) n c 1 (by omega) (by omega)⟩
  by_cases h : c = (1 : Int).toNat
  · right
    have : c = 1 := h
    omega
  · left
    rw [if_neg h]
    rfl
theorem ret_fin {w W : World} {lo nc b8 b9 : Nat} {P : PV} {g f : Nat → Value} {lsO lsS : Nat → List Int} {vR vQ : Value} {tr : Int} {ev : EvV} (hw : WF W lo g f lsO vR vQ nc) (hs : Seen g f lsO lsS) (hb : Below lo w W) (hk : KEEP w W) (x8 : W.heap[b8]? = some (.cells zCells 70 (0, 0))) (x9 : W.heap[b9]? = some (.cells zE 75 (0, 0))) (n89 : b8 ≠ b9) (l8 : w.heap.size ≤ b8) (l9 : w.heap.size ≤ b9) (lo0 : lo ≤ w.heap.size) (ht : ev.t = 0) :
    RetS w lo nc P lsS tr (.returned (.tuple #[.agg (sCells P f vR vQ tr), .agg (eCells ev), .bool true])) ((W.setRow b8 (sCells P f vR vQ tr)).setRow b9 (eCells ev)) ∧
    (loadVar 70 ⟨b8, 0, none⟩).run Try.prog ((W.setRow b8 (sCells P f vR vQ tr)).setRow b9 (eCells ev)) = .ok (.agg (sCells P f vR vQ tr)) ((W.setRow b8 (sCells P f vR vQ tr)).setRow b9 (eCells ev)) ∧
    (loadVar 75 ⟨b9, 0, none⟩).run Try.prog ((W.setRow b8 (sCells P f vR vQ tr)).setRow b9 (eCells ev)) = .ok (.agg (eCells ev)) ((W.setRow b8 (sCells P f vR vQ tr)).setRow b9 (eCells ev)) := by
  have y9 := (setRow_other W b8 b9 (sCells P f vR vQ tr) (Ne.symm n89)).trans x9
  have y8 := setRow_heap W b8 _ (sCells P f vR vQ tr) 70 (0, 0) x8
  have z8 := (setRow_other (W.setRow b8 (sCells P f vR vQ tr)) b9 b8 (eCells ev) n89).trans y8
  have z9 := setRow_heap (W.setRow b8 (sCells P f vR vQ tr)) b9 _ (eCells ev) 75 (0, 0) y9
  refine ⟨⟨g, f, lsO, vR, vQ, ev, rfl, ht, (hw.farRow x8 (by decide) (by decide) _).farRow y9 (by decide) (by decide) _, hs, ?_, (hk.newRow l8 _).newRow l9 _⟩, run_loadVar_row _ b8 70 70 _ (0, 0) _ z8 Try.underlying70 rfl size70, run_loadVar_row _ b9 75 75 _ (0, 0) _ z9 Try.underlying75 rfl size75⟩
  have r1 : Below lo W (W.setRow b8 (sCells P f vR vQ tr)) := ⟨rfl, rfl, rfl, by simp, fun k hk => setRow_other W b8 k _ (by omega)⟩
  have r2 : Below lo (W.setRow b8 (sCells P f vR vQ tr)) ((W.setRow b8 (sCells P f vR vQ tr)).setRow b9 (eCells ev)) := ⟨rfl, rfl, rfl, by simp, fun k hk => setRow_other _ b9 k _ (by omega)⟩
  exact (hb.trans r1).trans r2
/-! What the three compute. -/
def takenF (ls : Nat → List Int) (i : S33) : Nat → List Int :=
  if i.f0 = 17 then st ls 2 i.f1 (rd (ls 5) i.f2)
  else if i.f0 = 19 then st (st ls 5 i.f2 (wrap64 (rd (ls 5) i.f2 + rd (ls 2) i.f3))) 2 i.f1 (rd (ls 5) i.f2)
  else if i.f0 = 26 then (if rd (ls 10) i.f2 = 0 then st (st ls 10 i.f2 1) 2 i.f1 1 else st ls 2 i.f1 0)
  else match ls (12 + i.f2.toNat) with
    | x :: t => if i.f0 = 22 then st (st (up ls (12 + i.f2.toNat) t) 2 i.f1 x) 2 i.f3 1 else st (up ls (12 + i.f2.toNat) t) 2 i.f1 x
    | [] => if i.f0 = 22 then st (st ls 2 i.f1 0) 2 i.f3 0 else st ls 2 i.f1 0
def syncF (ls : Nat → List Int) (tr : Int) (i : S33) : (Nat → List Int) × Int :=
  if i.f0 = 0 then (ls, tr)
  else if i.f0 = 25 then (ls, tr)
  else if i.f0 = 13 then (st ls 6 i.f1 (-1), tr)
  else if i.f0 = 14 then (if rd (ls 6) i.f1 = -1 then (st ls 6 i.f1 0, 0) else (ls, 1))
  else if i.f0 = 15 then (st ls 6 i.f1 (wrap64 (rd (ls 6) i.f1 + 1)), tr)
  else if i.f0 = 16 then (if rd (ls 6) i.f1 < 1 then (ls, 1) else (st ls 6 i.f1 (wrap64 (rd (ls 6) i.f1 - 1)), 0))
  else if i.f0 = 18 then (st ls 5 i.f1 (rd (ls 2) i.f2), tr)
  else if i.f0 = 24 then (if wrap64 (rd (ls 9) i.f1 + i.f2) < 0 then (ls, 1) else (st ls 9 i.f1 (wrap64 (rd (ls 9) i.f1 + i.f2)), 0))
  else if i.f0 = 27 then (if rd (ls 10) i.f1 = 1 then (st ls 10 i.f1 2, 0) else (ls, 1))
  else if i.f0 = 20 then (if rd (ls 8) i.f1 = 0 then (up ls (12 + i.f1.toNat) (ls (12 + i.f1.toNat) ++ [rd (ls 2) i.f2]), 0) else (ls, rd (ls 8) i.f1))
  else if i.f0 = 23 then (st ls 8 i.f1 1, rd (ls 8) i.f1)
  else (takenF ls i, tr)
def stepF (ls : Nat → List Int) (tr : Int) (i : S33) : (Nat → List Int) × Int :=
  if i.f0 = 1 then (st (st ls 0 0 (wrap64 (rd (ls 0) 0 + 1))) 2 i.f1 i.f2, tr)
  else if i.f0 = 2 then (st (st ls 0 0 (wrap64 (rd (ls 0) 0 + 1))) 2 i.f1 (rd (ls 2) i.f2), tr)
  else if i.f0 = 3 then (st (st ls 0 0 (wrap64 (rd (ls 0) 0 + 1))) 2 i.f1 (wrap64 (rd (ls 2) i.f2 + rd (ls 2) i.f3)), tr)
  else if i.f0 = 4 then (st (st ls 0 0 (wrap64 (rd (ls 0) 0 + 1))) 2 i.f1 (wrap64 (rd (ls 2) i.f2 - rd (ls 2) i.f3)), tr)
  else if i.f0 = 5 then (st (st ls 0 0 (wrap64 (rd (ls 0) 0 + 1))) 2 i.f1 (wrap64 (rd (ls 2) i.f2 * rd (ls 2) i.f3)), tr)
  else if i.f0 = 6 then (st (st ls 0 0 (wrap64 (rd (ls 0) 0 + 1))) 2 i.f1 (if rd (ls 2) i.f2 < rd (ls 2) i.f3 then 1 else 0), tr)
  else if i.f0 = 7 then (st (st ls 0 0 (wrap64 (rd (ls 0) 0 + 1))) 2 i.f1 (rd (ls 4) i.f2), tr)
  else if i.f0 = 8 then (st (st ls 0 0 (wrap64 (rd (ls 0) 0 + 1))) 4 i.f1 (rd (ls 2) i.f2), tr)
  else if i.f0 = 9 then (up (st ls 0 0 (wrap64 (rd (ls 0) 0 + 1))) 11 (ls 11 ++ [rd (ls 2) i.f1]), tr)
  else if i.f0 = 10 then (st (st ls 0 0 (wrap64 (rd (ls 0) 0 + 1))) 0 0 i.f1, tr)
  else if i.f0 = 11 then (if rd (ls 2) i.f1 = 0 then (st (st ls 0 0 (wrap64 (rd (ls 0) 0 + 1))) 0 0 i.f2, tr) else (st ls 0 0 (wrap64 (rd (ls 0) 0 + 1)), tr))
  else syncF (st ls 0 0 (wrap64 (rd (ls 0) 0 + 1))) tr i
end Go.Proofs.Yticdodbnjlnjlaa.P
