import Derived.Test.YtfiemikganhgeaaRFA
namespace Go.Proofs.Ytfiemikganhgeaa.Th
set_option linter.unusedVariables false
open Go Go.RowKit Go.Proofs.Ytfiemikganhgeaa.P Go.Proofs.Ytfiemikganhgeaa.Opn Go.Proofs.YtfiemikganhgeaaW.PrintWords Go.Proofs.YtfiemikganhgeaaW.PrintLast Go.Proofs.YtfiemikganhgeaaW.PrintMore
/-! The document's Solve comes to the solution. -/
section
variable {ss : List (List Int)} {gs ks : List Int} {s : Nat} {m back : Bool} (hg : W64 gs) (hk : W64 ks) (hs : s < U) (hn : ss.length ≤ 64) (hl : ∀ q, q < ss.length → (ss.getD q []).length ≤ 900000)
theorem fn_all {n : Nat} {b : List Nat} (hb : ∀ i, i < n → fn b i < U) (hl : b.length = n) : ∀ j, fn b j < U := fun j => by
  by_cases h : j < n
  · exact hb j h
  · unfold fn
    rw [List.getD_eq_getElem?_getD, List.getElem?_eq_none (by omega)]
    exact (by decide : (0 : Nat) < U)
include hs in
theorem inn_back (b : List Nat) (hb : ∀ j, fn b j < U) (i : Nat) (hi : i < ss.length) : ((ss.getD i []).flatMap (afV ss.length s b)).foldl (MT m) (AL m) = (sysP ss gs ks (s : Int) m true).inn (fn b) i := by
  show _ = inN m (edB true ss i) ((s : Int)).toNat ((((frR ss true).getD i []).map Int.toNat).map (fn b))
  rw [Int.toNat_natCast]
  refine fold_inn m _ hs (fun v hv => ?_) (fun v hv => ?_) (fun v => ?_)
  · obtain ⟨x, hx, hv⟩ := List.mem_flatMap.1 hv
    exact afV_lt hs hb x v hv
  · obtain ⟨x, hx, rfl⟩ := List.mem_map.1 hv
    exact hb _
  · rw [List.mem_flatMap]
    unfold edB frR afV
    rw [if_pos rfl, if_pos rfl, decide_eq_true_iff]
    constructor
    · rintro ⟨x, hx, hv⟩
      rcases List.mem_append.1 hv with hv | hv
      · split at hv
        · rename_i e
          rw [e] at hx
          exact .inl ⟨hx, List.mem_singleton.1 hv⟩
        · cases hv
      · split at hv
        · rename_i e
          refine .inr (List.mem_map.2 ⟨x.toNat, List.mem_map.2 ⟨x, (inside_mem ss i hi x).2 ⟨hx, e⟩, rfl⟩, (List.mem_singleton.1 hv).symm⟩)
        · cases hv
    · rintro (⟨h1, h2⟩ | hv)
      · exact ⟨(ss.length : Int), h1, List.mem_append.2 (.inl (by rw [if_pos rfl]; exact List.mem_singleton.2 h2))⟩
      · obtain ⟨y, hy, rfl⟩ := List.mem_map.1 hv
        obtain ⟨x, hx, rfl⟩ := List.mem_map.1 hy
        obtain ⟨h1, h2⟩ := (inside_mem ss i hi x).1 hx
        exact ⟨x, h1, List.mem_append.2 (.inr (by rw [if_pos h2]; exact List.mem_singleton.2 rfl))⟩
include hs in
theorem inn_forth (b : List Nat) (hb : ∀ j, fn b j < U) (i : Nat) (hi : i < ss.length) : ((if i = 0 then [s] else []) ++ befV ss b i ss.length 0).foldl (MT m) (AL m) = (sysP ss gs ks (s : Int) m false).inn (fn b) i := by
  show _ = inN m (edB false ss i) ((s : Int)).toNat ((((frR ss false).getD i []).map Int.toNat).map (fn b))
  rw [Int.toNat_natCast]
  have hmem : ∀ v, v ∈ ((if i = 0 then [s] else []) : List Nat) ↔ (i = 0 ∧ v = s) := fun v => by
    split
    · rename_i e; rw [List.mem_singleton]; exact ⟨fun h => ⟨e, h⟩, fun h => h.2⟩
    · rename_i e; exact ⟨fun h => (by cases h), fun h => absurd h.1 e⟩
  refine fold_inn m _ hs (fun v hv => ?_) (fun v hv => ?_) (fun v => ?_)
  · rcases List.mem_append.1 hv with hv | hv
    · rw [((hmem v).1 hv).2]; exact hs
    · obtain ⟨q, _, _, _, rfl⟩ := (befV_mem ss b i v _ _).1 hv
      exact hb q
  · obtain ⟨x, hx, rfl⟩ := List.mem_map.1 hv
    exact hb _
  · rw [List.mem_append, hmem, befV_mem]
    have e1 : (edB false ss i = true) ↔ i = 0 := by
      unfold edB; rw [if_neg (by decide)]; simp
    have e2 : frR ss false = preds ss := by unfold frR; rw [if_neg (by decide)]
    rw [e1, e2]
    constructor
    · rintro (h | ⟨q, h1, h2, h3, rfl⟩)
      · exact .inl h
      · refine .inr (List.mem_map.2 ⟨q, List.mem_map.2 ⟨(q : Int), (preds_mem ss i _).2 ⟨q, by omega, rfl, h3, hi⟩, Int.toNat_natCast q⟩, rfl⟩)
    · rintro (h | hv)
      · exact .inl h
      · obtain ⟨y, hy, rfl⟩ := List.mem_map.1 hv
        obtain ⟨x, hx, rfl⟩ := List.mem_map.1 hy
        obtain ⟨q, h1, rfl, h3, _⟩ := (preds_mem ss i x).1 hx
        exact .inr ⟨q, by omega, by omega, h3, by rw [Int.toNat_natCast]⟩
include hg hk hs hn hl in
theorem place_ev {a b : List Nat} (h : Inv2 (sysP ss gs ks (s : Int) m back) a b) (i : Nat) (hi : i < ss.length) :
    Ev (fun k => placeI k ss gs ks (s : Int) m back (i : Int) (outcome back a b).1 (outcome back a b).2) (outcome back (a.set i ((sysP ss gs ks (s : Int) m back).inn (fn b) i)) (b.set i ((sysP ss gs ks (s : Int) m back).out (fn b) i))) := by
  have hst : 0 ≤ (s : Int) ∧ (s : Int) < 18446744073709551616 := ⟨by omega, by have : s < 18446744073709551616 := hs; omega⟩
  have hS := sysP_ok (ss := ss) (ks := ks) (m := m) (back := back) hg hst
  have lb : b.length = ss.length := h.lo
  have hb : ∀ j, fn b j < U := fn_all (fun i hi => h.bd i hi) h.lo
  have hi' := inn_lt hS h.bd hi
  unfold placeI
  cases back
  · refine ev_neg (by decide) ?_
    have e := inn_forth (gs := gs) (ks := ks) (m := m) hs b hb i hi
    have := before_ev ss gs ks s m false b lb hb hs i hn hl
    rw [e] at this
    refine Ev.bind this ?_
    rw [rthrough ss hg hk (s : Int) m false i hi']
    refine Ev.bind (Ev.now _) ?_
    have e3 : outcome false (a.set i ((sysP ss gs ks (s : Int) m false).inn (fn b) i)) (b.set i ((sysP ss gs ks (s : Int) m false).out (fn b) i)) = ((outcome false a b).1.set i ((sysP ss gs ks (s : Int) m false).inn (fn b) i : Nat), (outcome false a b).2.set i ((sysP ss gs ks (s : Int) m false).out (fn b) i : Nat)) := by
      show (IntL _, IntL _) = _
      rw [← IntL_set, ← IntL_set]
      rfl
    rw [e3, Int.toNat_natCast]
    exact Ev.now _
  · refine ev_pos rfl ?_
    have e := inn_back (gs := gs) (ks := ks) (m := m) hs b hb i hi
    have := after_ev ss gs ks s m true b lb hb hs i hi (hl i hi)
    rw [e] at this
    refine Ev.bind this ?_
    rw [rthrough ss hg hk (s : Int) m true i hi']
    refine Ev.bind (Ev.now _) ?_
    have e3 : outcome true (a.set i ((sysP ss gs ks (s : Int) m true).inn (fn b) i)) (b.set i ((sysP ss gs ks (s : Int) m true).out (fn b) i)) = ((outcome true a b).1.set i ((sysP ss gs ks (s : Int) m true).out (fn b) i : Nat), (outcome true a b).2.set i ((sysP ss gs ks (s : Int) m true).inn (fn b) i : Nat)) := by
      show (IntL _, IntL _) = _
      rw [← IntL_set, ← IntL_set]
      rfl
    rw [e3, Int.toNat_natCast]
    exact Ev.now _
def outcome3 (back : Bool) (r : List Nat × List Nat × Bool) : List Int × List Int × Bool := ((outcome back r.1 r.2.1).1, (outcome back r.1 r.2.1).2, r.2.2)
theorem bne_nat (x y : Nat) : ((x : Int) != (y : Int)) = decide (x ≠ y) := by
  rw [Bool.eq_iff_iff, bne_iff_ne, decide_eq_true_iff]
  omega
theorem flag_eq (back : Bool) (a b : List Nat) (i x y : Nat) (ha : i < a.length) (hb : i < b.length) :
    (rd (outcome back a b).1 (i : Int) != rd (outcome back (a.set i x) (b.set i y)).1 (i : Int) || rd (outcome back a b).2 (i : Int) != rd (outcome back (a.set i x) (b.set i y)).2 (i : Int)) = (decide (fn a i ≠ x) || decide (fn b i ≠ y)) := by
  have e1 : fn (a.set i x) i = x := by rw [fn_set a i x ha]; unfold upd; rw [if_pos rfl]
  have e2 : fn (b.set i y) i = y := by rw [fn_set b i y hb]; unfold upd; rw [if_pos rfl]
  cases back
  · show (rd (IntL a) (i : Int) != rd (IntL (a.set i x)) (i : Int) || rd (IntL b) (i : Int) != rd (IntL (b.set i y)) (i : Int)) = _
    rw [IntL_rd, IntL_rd, IntL_rd, IntL_rd, e1, e2, bne_nat, bne_nat]
  · show (rd (IntL b) (i : Int) != rd (IntL (b.set i y)) (i : Int) || rd (IntL a) (i : Int) != rd (IntL (a.set i x)) (i : Int)) = _
    rw [IntL_rd, IntL_rd, IntL_rd, IntL_rd, e1, e2, bne_nat, bne_nat, Bool.or_comm]
include hg hk hs hn hl in
theorem pass_ev : ∀ (d i : Nat) (a b : List Nat) (e : Bool), i + d = ss.length → Inv2 (sysP ss gs ks (s : Int) m back) a b →
    Ev (fun k => passI k ss gs ks (s : Int) m back d i (outcome back a b).1 (outcome back a b).2 e) (outcome3 back (passN (sysP ss gs ks (s : Int) m back) d i a b e))
  | 0, i, a, b, e, _, _ => Ev.now _
  | d + 1, i, a, b, e, he, h => by
    have hst : 0 ≤ (s : Int) ∧ (s : Int) < 18446744073709551616 := ⟨by omega, by have : s < 18446744073709551616 := hs; omega⟩
    have hS := sysP_ok (ss := ss) (ks := ks) (m := m) (back := back) hg hst
    have hi : i < ss.length := by omega
    have la : a.length = ss.length := h.li
    have lb : b.length = ss.length := h.lo
    simp only [passI, passN]
    refine Ev.bind (place_ev hg hk hs hn hl h i hi) ?_
    rw [flag_eq back a b i _ _ (by omega) (by omega)]
    exact pass_ev d (i + 1) _ _ _ (by omega) (place_inv hS h hi).1
include hg hk hs hn hl in
theorem rounds_ev : ∀ (d : Nat) (a b x y : List Nat), Inv2 (sysP ss gs ks (s : Int) m back) a b → roundsN (sysP ss gs ks (s : Int) m back) d a b = some (x, y) →
    Ev (fun k => roundsI k ss gs ks (s : Int) m back d (outcome back a b).1 (outcome back a b).2) (outcome back x y)
  | 0, a, b, x, y, h, hr => by cases hr
  | d + 1, a, b, x, y, h, hr => by
    have hst : 0 ≤ (s : Int) ∧ (s : Int) < 18446744073709551616 := ⟨by omega, by have : s < 18446744073709551616 := hs; omega⟩
    have hS := sysP_ok (ss := ss) (ks := ks) (m := m) (back := back) hg hst
    have hp := pass_ev (back := back) (m := m) hg hk hs hn hl ss.length 0 a b false (by omega) h
    obtain ⟨p1, _⟩ := pass_inv hS ss.length 0 a b false (by show 0 + ss.length = ss.length; omega) h
    simp only [roundsN] at hr
    rw [show (sysP ss gs ks (s : Int) m back).n = ss.length from rfl] at hr
    simp only [roundsI]
    generalize passN (sysP ss gs ks (s : Int) m back) ss.length 0 a b false = r at *
    refine Ev.bind hp ?_
    by_cases hc : r.2.2 = true
    · rw [if_pos hc] at hr
      refine ev_pos hc ?_
      exact rounds_ev d _ _ x y p1 hr
    · rw [if_neg hc] at hr
      cases hr
      exact ev_neg hc (Ev.now _)
theorem roundsI_up (ss : List (List Int)) (gs ks : List Int) (st : Int) (m bk : Bool) (k : Nat) : ∀ (d : Nat) (a b : List Int), LeO (roundsI k ss gs ks st m bk d a b) (roundsI k ss gs ks st m bk (d + 1) a b)
  | 0, _, _ => fun r h => by cases h
  | d + 1, a, b => LeO.bind (LeO.refl _) (fun r => LeO.ite (roundsI_up ss gs ks st m bk k d r.1 r.2.1) (LeO.refl _))
include hg hk hs hn hl in
theorem ref_ev : ∃ x y : List Nat, x.length = ss.length ∧ y.length = ss.length ∧ Sol (sysP ss gs ks (s : Int) m back) (fn x) (fn y) ∧ Ev (fun k => interlockref13_Solve.f k ss gs ks (s : Int) m back) (outcome back x y) := by
  have hst : 0 ≤ (s : Int) ∧ (s : Int) < 18446744073709551616 := ⟨by omega, by have : s < 18446744073709551616 := hs; omega⟩
  have hS := sysP_ok (ss := ss) (ks := ks) (m := m) (back := back) hg hst
  have hb := begin2 (sysP ss gs ks (s : Int) m back) hS
  obtain ⟨x, y, h1, h2, h3, h4⟩ := rounds_ok hS _ _ _ hb (Nat.le_refl _)
  refine ⟨x, y, h2, h3, h4, ?_⟩
  have hr := h1 _ (Nat.lt_succ_self _)
  generalize (Nat.succ _) = D at hr
  obtain ⟨K, hK⟩ := rounds_ev hg hk hs hn hl D _ _ x y hb hr
  have e0 : ∀ v : Nat, IntL (List.replicate ss.length v) = List.replicate ss.length (v : Int) := fun v => by unfold IntL; rw [List.map_replicate]
  have e1 : (outcome back (List.replicate (sysP ss gs ks (s : Int) m back).n (AL (sysP ss gs ks (s : Int) m back).must)) (List.replicate (sysP ss gs ks (s : Int) m back).n (AL (sysP ss gs ks (s : Int) m back).must))) = (List.replicate ss.length (AL m : Int), List.replicate ss.length (AL m : Int)) := by
    rw [← e0]
    cases back <;> rfl
  rw [e1] at hK
  unfold interlockref13_Solve.f
  refine ev_pos hn (Ev.bind (rnone_ev m) ⟨max K D, fun k hk => ?_⟩)
  have ha : K ≤ k := Nat.le_trans (Nat.le_max_left _ _) hk
  have hd : D ≤ k := Nat.le_trans (Nat.le_max_right _ _) hk
  have h := hK k ha
  have up : ∀ j, roundsI k ss gs ks (s : Int) m back (D + j) (List.replicate ss.length (AL m : Int)) (List.replicate ss.length (AL m : Int)) = some (outcome back x y) := fun j => by
    induction j with
    | zero => exact h
    | succ j ih => exact roundsI_up ss gs ks (s : Int) m back k (D + j) _ _ _ ih
  have := up (k - D)
  rw [show D + (k - D) = k by omega] at this
  exact this
end
theorem same_l0 (l : List Int) (hl : l.length ≤ 1000000) : ∀ (d j : Nat), j + d = l.length → Ev (fun k => interlockref13_Same.l0 k l l (j : Int)) true
  | 0, j, hj => Ev.step (f := fun _ => some true) (fun k => by
      simp only [interlockref13_Same.l0]
      rw [if_neg (by omega)]) (Ev.now _)
  | d + 1, j, hj => by
    refine Ev.step (f := fun k => _) (fun k => by
      simp only [interlockref13_Same.l0]
      rw [if_pos (by omega), if_pos (by omega), if_pos (by omega), if_pos trivial, up j (by omega)]) (same_l0 l hl d (j + 1) (by omega))
theorem same_ev (l : List Int) (hl : l.length ≤ 1000000) : Ev (fun k => interlockref13_Same.f k l l) true := by
  unfold interlockref13_Same.f
  exact ev_pos rfl (same_l0 l hl l.length 0 (by omega))
theorem fn_ext {a b : List Nat} (hl : a.length = b.length) (h : ∀ i, i < a.length → fn a i = fn b i) : a = b := by
  refine List.ext_getElem hl (fun i h1 h2 => ?_)
  have := h i h1
  unfold fn at this
  rw [List.getD_eq_getElem?_getD, List.getElem?_eq_getElem h1, List.getD_eq_getElem?_getD, List.getElem?_eq_getElem h2] at this
  exact this
/-- Both come to the same. -/
theorem tells_ev (ss : List (List Int)) (gs ks : List Int) (st : Int) (m back : Bool) (hl : ss.length ≤ 64 → ∀ i, i < ss.length → (ss.getD i []).length ≤ 900000) (hg : W64 gs) (hk : W64 ks) (hst : 0 ≤ st ∧ st < 18446744073709551616) : Ev (fun k => interlocklaw13_tells.f k ss gs ks st m back) true := by
  obtain ⟨s, rfl⟩ : ∃ s : Nat, st = (s : Int) := ⟨st.toNat, by omega⟩
  have hs : s < U := by have := hst.2; show s < 18446744073709551616; omega
  unfold interlocklaw13_tells.f
  by_cases hn : ss.length ≤ 64
  · have hl := hl hn
    obtain ⟨a, b, a1, a2, a3, a4⟩ := flow_ev ss gs ks (s : Int) m back hn hl hg hk hst
    obtain ⟨x, y, b1, b2, b3, b4⟩ := ref_ev (m := m) (back := back) hg hk hs hn hl
    have hS := sysP_ok (ss := ss) (ks := ks) (m := m) (back := back) hg hst
    have hone := Sol.one hS a3 b3
    obtain rfl : a = x := fn_ext (by omega) (fun i hi => (hone i (by show i < ss.length; omega)).1)
    obtain rfl : b = y := fn_ext (by omega) (fun i hi => (hone i (by show i < ss.length; omega)).2)
    have l1 : (outcome back a b).1.length ≤ 1000000 := by
      cases back
      · show (IntL a).length ≤ _; rw [IntL_len]; omega
      · show (IntL b).length ≤ _; rw [IntL_len]; omega
    have l2 : (outcome back a b).2.length ≤ 1000000 := by
      cases back
      · show (IntL b).length ≤ _; rw [IntL_len]; omega
      · show (IntL a).length ≤ _; rw [IntL_len]; omega
    exact Ev.bind a4 (Ev.bind b4 (Ev.bind (same_ev _ l1) (ev_pos rfl (Ev.bind (same_ev _ l2) (Ev.now _)))))
  · have f1 : Ev (fun k => flow_Solve.f k ss gs ks (s : Int) m back) ([], []) := by unfold flow_Solve.f; exact ev_neg hn (Ev.now _)
    have f2 : Ev (fun k => interlockref13_Solve.f k ss gs ks (s : Int) m back) ([], []) := by unfold interlockref13_Solve.f; exact ev_neg hn (Ev.now _)
    exact Ev.bind f1 (Ev.bind f2 (Ev.bind (same_ev [] (by decide)) (ev_pos rfl (Ev.bind (same_ev [] (by decide)) (Ev.now _)))))
/-- A sum that is small, of few rows: each row is short. -/
theorem sum_rows (ss : List (List Int)) (hn : ss.length ≤ 64) (hb : ∀ q, q < ss.length → (ss.getD q []).length ≤ 140737488351232) : ∀ j, j ≤ ss.length → 0 ≤ sumS ss j ∧ sumS ss j ≤ (j : Int) * 140737488351233 ∧ ∀ q, q < j → ((ss.getD q []).length : Int) ≤ sumS ss j
  | 0, _ => ⟨Int.le_refl _, by rw [show sumS ss 0 = 0 from rfl]; omega, fun q hq => by omega⟩
  | j + 1, hj => by
    obtain ⟨h1, h2, h3⟩ := sum_rows ss hn hb j (by omega)
    have h4 := hb j (by omega)
    have e1 : wrap64 (1 + ((ss.getD j []).length : Int)) = 1 + ((ss.getD j []).length : Int) := w64 (by omega) (by omega)
    have e2 : wrap64 (sumS ss j + (1 + ((ss.getD j []).length : Int))) = sumS ss j + (1 + ((ss.getD j []).length : Int)) := w64 (by omega) (by omega)
    have e : sumS ss (j + 1) = sumS ss j + (1 + ((ss.getD j []).length : Int)) := by rw [sumS_succ ss j (by omega), e1, e2]
    clear e1 e2
    rw [e]
    refine ⟨by omega, by omega, fun q hq => ?_⟩
    by_cases hc : q = j
    · subst hc; omega
    · have := h3 q (by omega); omega
end Go.Proofs.Ytfiemikganhgeaa.Th
