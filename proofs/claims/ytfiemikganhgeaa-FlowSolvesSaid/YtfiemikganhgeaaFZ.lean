import Derived.Test.YtfiemikganhgeaaFY
namespace Go.Proofs.Ytfiemikganhgeaa.Th
set_option linter.unusedVariables false
open Go Go.RowKit Go.Proofs.Ytfiemikganhgeaa.P Go.Proofs.Ytfiemikganhgeaa.Opn Go.Proofs.YtfiemikganhgeaaW.PrintWords Go.Proofs.YtfiemikganhgeaaW.PrintLast Go.Proofs.YtfiemikganhgeaaW.PrintMore
/-! Round by round, till nothing changes: it comes to the same. -/
def passN (S : Sys) : Nat → Nat → List Nat → List Nat → Bool → List Nat × List Nat × Bool
  | 0, _, a, b, m => (a, b, m)
  | d + 1, i, a, b, m => passN S d (i + 1) (a.set i (S.inn (fn b) i)) (b.set i (S.out (fn b) i)) (m || (decide (fn a i ≠ S.inn (fn b) i) || decide (fn b i ≠ S.out (fn b) i)))
def roundsN (S : Sys) : Nat → List Nat → List Nat → Option (List Nat × List Nat)
  | 0, _, _ => none
  | k + 1, a, b => if (passN S S.n 0 a b false).2.2 = true then roundsN S k (passN S S.n 0 a b false).1 (passN S S.n 0 a b false).2.1 else some ((passN S S.n 0 a b false).1, (passN S S.n 0 a b false).2.1)
structure Inv2 (S : Sys) (a b : List Nat) : Prop where
  li : a.length = S.n
  lo : b.length = S.n
  ba : Bd S (fn a)
  bd : Bd S (fn b)
  least : Least S (fn b)
  rise : Rise S (fn b)
  below : ∀ i, i < S.n → Le S.must (fn a i) (S.inn (fn b) i)
theorem set_same (l : List Nat) (i : Nat) (hi : i < l.length) : l.set i (fn l i) = l := by
  refine List.ext_getElem (by rw [List.length_set]) (fun j h1 h2 => ?_)
  rw [List.getElem_set]
  split
  · rename_i e; subst e
    unfold fn
    rw [List.getD_eq_getElem?_getD, List.getElem?_eq_getElem h2]; rfl
  · rfl
section
variable {S : Sys} (hS : S.Ok)
include hS in
theorem place_inv {a b : List Nat} (h : Inv2 S a b) {i : Nat} (hi : i < S.n) : Inv2 S (a.set i (S.inn (fn b) i)) (b.set i (S.out (fn b) i)) ∧
    (remL S.must (a.set i (S.inn (fn b) i)) + remL S.must (b.set i (S.out (fn b) i)) ≤ remL S.must a + remL S.must b) ∧
    ((fn a i ≠ S.inn (fn b) i ∨ fn b i ≠ S.out (fn b) i) → remL S.must (a.set i (S.inn (fn b) i)) + remL S.must (b.set i (S.out (fn b) i)) < remL S.must a + remL S.must b) := by
  obtain ⟨s1, s2, s3, s4⟩ := step_ok hS h.bd h.least h.rise hi
  have ea : fn (a.set i (S.inn (fn b) i)) = upd (fn a) i (S.inn (fn b) i) := fn_set a i _ (by rw [h.li]; exact hi)
  have eb : fn (b.set i (S.out (fn b) i)) = upd (fn b) i (S.out (fn b) i) := fn_set b i _ (by rw [h.lo]; exact hi)
  have ra := remL_set S.must a i (S.inn (fn b) i) (by rw [h.li]; exact hi)
  have rb := remL_set S.must b i (S.out (fn b) i) (by rw [h.lo]; exact hi)
  have ma := remN_mono (h.below i hi)
  have mb := remN_mono (h.rise i hi)
  refine ⟨⟨by rw [List.length_set]; exact h.li, by rw [List.length_set]; exact h.lo, ?_, by rw [eb]; exact s1, by rw [eb]; exact s2, by rw [eb]; exact s3, fun j hj => ?_⟩, by omega, fun hne => ?_⟩
  · rw [ea]
    intro k hk
    unfold upd
    split
    · rename_i e; subst e; exact inn_lt hS h.bd hk
    · exact h.ba k hk
  · rw [ea, eb]
    refine Le.trans ?_ (inn_mono hS s4 hj)
    unfold upd
    split
    · rename_i e; subst e; exact Le.refl _ _
    · exact h.below j hj
  · rcases hne with hne | hne
    · have := remN_lt (h.ba i hi) (inn_lt hS h.bd hi) (h.below i hi) hne; omega
    · have := remN_lt (h.bd i hi) (out_lt hS h.bd hi) (h.rise i hi) hne; omega
include hS in
theorem pass_inv : ∀ (d i : Nat) (a b : List Nat) (m : Bool), i + d = S.n → Inv2 S a b →
    Inv2 S (passN S d i a b m).1 (passN S d i a b m).2.1 ∧
    (remL S.must (passN S d i a b m).1 + remL S.must (passN S d i a b m).2.1 ≤ remL S.must a + remL S.must b) ∧
    ((passN S d i a b m).2.2 = true → m = true ∨ remL S.must (passN S d i a b m).1 + remL S.must (passN S d i a b m).2.1 < remL S.must a + remL S.must b) ∧
    ((passN S d i a b m).2.2 = false → m = false ∧ (passN S d i a b m).1 = a ∧ (passN S d i a b m).2.1 = b ∧ ∀ j, i ≤ j → j < S.n → fn a j = S.inn (fn b) j ∧ fn b j = S.out (fn b) j)
  | 0, i, a, b, m, e, h => ⟨h, Nat.le_refl _, .inl, fun hm => ⟨hm, rfl, rfl, fun j h1 h2 => by omega⟩⟩
  | d + 1, i, a, b, m, e, h => by
    have hi : i < S.n := by omega
    obtain ⟨h1, h2, h3⟩ := place_inv hS h hi
    obtain ⟨p1, p2, p3, p4⟩ := pass_inv d (i + 1) _ _ (m || (decide (fn a i ≠ S.inn (fn b) i) || decide (fn b i ≠ S.out (fn b) i))) (by omega) h1
    refine ⟨p1, Nat.le_trans p2 h2, fun ht => ?_, fun hf => ?_⟩
    · rcases p3 ht with hm | hlt
      · simp only [Bool.or_eq_true, decide_eq_true_eq] at hm
        rcases hm with hm | hm
        · exact .inl hm
        · exact .inr (Nat.lt_of_le_of_lt p2 (h3 hm))
      · exact .inr (Nat.lt_of_lt_of_le hlt h2)
    · obtain ⟨q1, q2, q3, q4⟩ := p4 hf
      simp only [Bool.or_eq_false_iff, decide_eq_false_iff_not, ne_eq, Decidable.not_not] at q1
      obtain ⟨g1, g2, g3⟩ := q1
      have ea : a.set i (S.inn (fn b) i) = a := by rw [← g2]; exact set_same a i (by rw [h.li]; exact hi)
      have eb : b.set i (S.out (fn b) i) = b := by
        have : b.set i (fn b i) = b := set_same b i (by rw [h.lo]; exact hi)
        rw [g3] at this; exact this
      refine ⟨g1, q2.trans ea, q3.trans eb, fun j h4 h5 => ?_⟩
      by_cases ej : j = i
      · subst ej; exact ⟨g2, g3⟩
      · have := q4 j (by omega) h5
        rw [ea, eb] at this
        exact this
include hS in
theorem rounds_ok : ∀ (d : Nat) (a b : List Nat), Inv2 S a b → remL S.must a + remL S.must b ≤ d →
    ∃ x y, (∀ k, d < k → roundsN S k a b = some (x, y)) ∧ x.length = S.n ∧ y.length = S.n ∧ Sol S (fn x) (fn y) := by
  intro d
  induction d with
  | zero =>
    intro a b h hd
    obtain ⟨p1, p2, p3, p4⟩ := pass_inv hS S.n 0 a b false (by omega) h
    cases hm : (passN S S.n 0 a b false).2.2 with
    | true =>
      rcases p3 hm with h1 | h1
      · cases h1
      · omega
    | false =>
      obtain ⟨_, e1, e2, e3⟩ := p4 hm
      refine ⟨a, b, fun k hk => ?_, h.li, h.lo, h.bd, fun i hi => (e3 i (Nat.zero_le _) hi).1, fun i hi => (e3 i (Nat.zero_le _) hi).2, h.least⟩
      obtain ⟨k, rfl⟩ : ∃ m, k = m + 1 := ⟨k - 1, by omega⟩
      unfold roundsN
      rw [hm, if_neg (by decide), e1, e2]
  | succ d ih =>
    intro a b h hd
    obtain ⟨p1, p2, p3, p4⟩ := pass_inv hS S.n 0 a b false (by omega) h
    cases hm : (passN S S.n 0 a b false).2.2 with
    | true =>
      rcases p3 hm with h1 | h1
      · cases h1
      · obtain ⟨x, y, hk, r⟩ := ih _ _ p1 (by omega)
        refine ⟨x, y, fun k hlt => ?_, r⟩
        obtain ⟨k, rfl⟩ : ∃ m, k = m + 1 := ⟨k - 1, by omega⟩
        unfold roundsN
        rw [hm, if_pos rfl]
        exact hk k (by omega)
    | false =>
      obtain ⟨_, e1, e2, e3⟩ := p4 hm
      refine ⟨a, b, fun k hk => ?_, h.li, h.lo, h.bd, fun i hi => (e3 i (Nat.zero_le _) hi).1, fun i hi => (e3 i (Nat.zero_le _) hi).2, h.least⟩
      obtain ⟨k, rfl⟩ : ∃ m, k = m + 1 := ⟨k - 1, by omega⟩
      unfold roundsN
      rw [hm, if_neg (by decide), e1, e2]
end
/-! The beginnings. -/
theorem fn_rep (n v i : Nat) (hi : i < n) : fn (List.replicate n v) i = v := by
  unfold fn
  rw [List.getD_eq_getElem?_getD, List.getElem?_replicate, if_pos hi]; rfl
theorem inn_congr (S : Sys) (hS : S.Ok) {o o' : Nat → Nat} (h : ∀ k, k < S.n → o k = o' k) {i : Nat} (hi : i < S.n) : S.inn o i = S.inn o' i := by
  unfold Sys.inn
  congr 1
  exact List.map_congr_left (fun x hx => h x (hS.src_lt i hi x hx))
theorem rep_ok (S : Sys) (hS : S.Ok) : Bd S (fn (List.replicate S.n (AL S.must))) ∧ Least S (fn (List.replicate S.n (AL S.must))) ∧ Rise S (fn (List.replicate S.n (AL S.must))) :=
  ⟨fun i hi => by rw [fn_rep _ _ _ hi]; exact AL_lt _, fun o' _ i hi => by rw [fn_rep _ _ _ hi]; exact Le.bot _ _, fun i hi => by rw [fn_rep _ _ _ hi]; exact Le.bot _ _⟩
theorem begin2 (S : Sys) (hS : S.Ok) : Inv2 S (List.replicate S.n (AL S.must)) (List.replicate S.n (AL S.must)) := by
  obtain ⟨h1, h2, h3⟩ := rep_ok S hS
  exact ⟨by simp, by simp, h1, h1, h2, h3, fun i hi => by rw [fn_rep _ _ _ hi]; exact Le.bot _ _⟩
theorem begin1 (S : Sys) (hS : S.Ok) {ws : List Bool} {q : List Nat} (hw : WQok S.n (ws, q)) (hall : ∀ i, i < S.n → ws.getD i false = true) : Inv S (List.replicate S.n (AL S.must)) (List.replicate S.n (AL S.must)) (ws, q) := by
  obtain ⟨h1, h2, h3⟩ := rep_ok S hS
  exact ⟨by simp, by simp, h1, h2, h3, hw, fun i hi h => by have h : ws.getD i false = false := h; rw [hall i hi] at h; cases h⟩
end Go.Proofs.Ytfiemikganhgeaa.Th
