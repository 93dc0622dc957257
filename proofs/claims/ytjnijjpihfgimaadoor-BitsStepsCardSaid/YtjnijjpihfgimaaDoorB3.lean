import Derived.Test.YtjnijjpihfgimaaDoorB2
namespace Go.Proofs.YtjnijjpihfgimaaDoor.Th
set_option linter.unusedVariables false
open Go Go.RowKit Go.Proofs.YtjnijjpihfgimaaDoor.P Go.Proofs.YtjnijjpihfgimaaDoor.Pl Go.Proofs.YtjnijjpihfgimaaDoorW.PrintWords Go.Proofs.YtjnijjpihfgimaaDoorW.PrintLast Go.Proofs.YtjnijjpihfgimaaDoorW.PrintMore
theorem rwithout_l0 (l : List Int) (hl : l.length ≤ 4611686018427387904) : ∀ (d i s : Nat), i + d = l.length → s < 18446744073709551616 →
    Ev (fun k => interlockref01_Without.l0 k (s : Int) l (i : Int)) (withoutN s (l.drop i) : Int) := by
  intro d
  induction d with
  | zero =>
    intro i s hi hs
    refine Ev.step (fun k => by simp only [interlockref01_Without.l0]; rw [if_neg (by omega)]) ?_
    rw [List.drop_eq_nil_of_le (by omega)]; exact Ev.now _
  | succ d ih =>
    intro i s hi hs
    have h := ih (i + 1) (minus s (bitN (l.getD i 0))) (by omega) (minus_lt _ _ hs)
    rw [drop_get l i (by omega)]
    have E1 : Aside0 (wrap64 ((i : Int) + 1) = ((i + 1 : Nat) : Int)) := ⟨by rw [w64 (by omega) (by omega)]; rfl⟩
    have goal_ : Ev (fun k => interlockref01_Without.l0 k (s : Int) l (i : Int)) (withoutN (minus s (bitN (l.getD i 0))) (l.drop (i + 1)) : Int) := by
      refine Ev.step (fun k => by simp only [interlockref01_Without.l0]; rw [if_pos (by omega), if_pos (by omega), rd_nat, E1.out]) ?_
      generalize l.getD i 0 = x at h ⊢
      refine Ev.bind (rhas_ev s hs x) ?_
      by_cases hx : 0 ≤ x ∧ x < 64
      · obtain ⟨n, rfl⟩ := Int.eq_ofNat_of_zero_le hx.1
        have hn : n < 64 := by omega
        rw [bitN_in hn] at h ⊢
        rw [decide_eq_true hx, Bool.true_and, Int.toNat_natCast]
        cases hb : s.testBit n with
        | true =>
          have e := minus_sub s n hs hn hb
          have hge : 2 ^ n ≤ s := Nat.ge_two_pow_of_testBit hb
          refine Ev.congr (fun k => if_pos rfl) (Ev.bind (two_ev n hn) ?_)
          rw [show (s : Int) - ((2 ^ n : Nat) : Int) = ((s - 2 ^ n : Nat) : Int) by omega, u64id (Nat.lt_of_le_of_lt (Nat.sub_le _ _) hs), ← e]
          exact h
        | false =>
          rw [minus_no s n hs hn hb] at h ⊢
          exact Ev.congr (fun k => if_neg (by decide)) h
      · rw [bitN_out hx, minus_zero s hs] at h ⊢
        rw [decide_eq_false hx, Bool.false_and]
        exact Ev.congr (fun k => if_neg (by decide)) h
    exact goal_
theorem rwithout_ev (l : List Int) (hl : l.length ≤ 4611686018427387904) (s : Nat) (hs : s < 18446744073709551616) : Ev (fun k => interlockref01_Without.f k (s : Int) l) (withoutN s l : Int) := rwithout_l0 l hl l.length 0 s (by omega) hs
/-! List. -/
theorem take_nints (s i : Nat) (hi : i < 64) : ((List.range (i + 1)).filter s.testBit).map (fun i : Nat => (i : Int)) = ((List.range i).filter s.testBit).map (fun i : Nat => (i : Int)) ++ if s.testBit i = true then [(i : Int)] else [] := by
  rw [List.range_succ, List.filter_append, List.map_append]
  congr 1
  by_cases h : s.testBit i = true
  · simp [h]
  · simp [h]
theorem rlist_l0 (s : Nat) (hs : s < 18446744073709551616) : ∀ (d i : Nat), i + d = 64 →
    Ev (fun k => interlockref01_List.l0 k (s : Int) (((List.range i).filter s.testBit).map (fun i : Nat => (i : Int))) (i : Int)) (It.nints s) := by
  intro d
  induction d with
  | zero =>
    intro i hi
    obtain rfl : i = 64 := by omega
    exact Ev.step (fun k => by simp only [interlockref01_List.l0]; rw [if_neg (by omega)]; rfl) (Ev.now _)
  | succ d ih =>
    intro i hi
    have h := ih (i + 1) (by omega)
    rw [take_nints s i (by omega)] at h
    have hlen : (((List.range i).filter s.testBit).map (fun i : Nat => (i : Int))).length ≤ 64 := by
      rw [List.length_map]; exact Nat.le_trans (List.length_filter_le _ _) (by simp; omega)
    generalize (((List.range i).filter s.testBit).map (fun i : Nat => (i : Int))) = acc at h hlen ⊢
    have E1 : Aside0 (wrap64 ((i : Int) + 1) = ((i + 1 : Nat) : Int)) := ⟨by rw [w64 (by omega) (by omega)]; rfl⟩
    refine Ev.step (fun k => by simp only [interlockref01_List.l0]; rw [if_pos (by omega), E1.out]) ?_
    refine Ev.bind (rhas_ev s hs i) ?_
    rw [decide_eq_true (by omega), Bool.true_and, Int.toNat_natCast]
    cases hb : s.testBit i with
    | true =>
      rw [hb, if_pos rfl] at h
      exact Ev.congr (fun k => by rw [if_pos rfl, if_pos (by omega)]) h
    | false =>
      rw [hb, if_neg (by decide), List.append_nil] at h
      exact Ev.congr (fun k => if_neg (by decide)) h
theorem rlist_ev (s : Nat) (hs : s < 18446744073709551616) : Ev (fun k => interlockref01_List.f k (s : Int)) (It.nints s) := rlist_l0 s hs 64 0 (by omega)
theorem list_f (s : Nat) (hs : s < 18446744073709551616) : bits_List.f (s : Int) = some (It.nints s) := by
  unfold bits_List.f; rw [if_pos (by omega), if_pos (by omega), Int.toNat_natCast]
theorem first_f (s : Nat) (hs : s < 18446744073709551616) (m : Int) : bits_First.f (s : Int) m = some (It.firstOf s m) := by
  unfold bits_First.f; rw [if_pos (by omega), if_pos (by omega), Int.toNat_natCast]
theorem firstOf_eq (s : Nat) (m : Int) : It.firstOf s m = ((It.nints s).find? (fun i => decide (m ≤ i))).getD (-1) := by
  unfold It.firstOf It.nints
  rw [List.find?_map]
  have e : ((fun i : Int => decide (m ≤ i)) ∘ fun i : Nat => (i : Int)) = fun i : Nat => decide (m ≤ (i : Int)) := rfl
  rw [e]
  cases (bnums s).find? (fun i : Nat => decide (m ≤ (i : Int))) <;> rfl
theorem rfirst_l0 (m : Int) (l : List Int) (hl : l.length ≤ 64) : ∀ (d i : Nat), i + d = l.length → Ev (fun k => interlockref01_First.l0 k m l (i : Int)) (((l.drop i).find? (fun i => decide (m ≤ i))).getD (-1)) := by
  intro d
  induction d with
  | zero =>
    intro i hi
    refine Ev.step (fun k => by simp only [interlockref01_First.l0]; rw [if_neg (by omega)]) ?_
    rw [List.drop_eq_nil_of_le (by omega)]; exact Ev.now _
  | succ d ih =>
    intro i hi
    have h := ih (i + 1) (by omega)
    rw [drop_get l i (by omega), List.find?_cons]
    have E1 : Aside0 (wrap64 ((i : Int) + 1) = ((i + 1 : Nat) : Int)) := ⟨by rw [w64 (by omega) (by omega)]; rfl⟩
    refine Ev.step (fun k => by simp only [interlockref01_First.l0]; rw [if_pos (by omega), if_pos (by omega), rd_nat, E1.out]) ?_
    by_cases hx : m ≤ l.getD i 0
    · rw [decide_eq_true hx]
      exact Ev.congr (fun k => if_pos hx) (Ev.now _)
    · rw [decide_eq_false hx]
      exact Ev.congr (fun k => if_neg hx) h
theorem rfirst_ev (s : Nat) (hs : s < 18446744073709551616) (m : Int) : Ev (fun k => interlockref01_First.f k (s : Int) m) (It.firstOf s m) := by
  have h := rfirst_l0 m (It.nints s) (It.nints_len s) _ 0 (Nat.zero_add _)
  rw [List.drop_zero, ← firstOf_eq] at h
  exact Ev.bind (rlist_ev s hs) h
theorem rsame_l0 (l : List Int) (hl : l.length ≤ 4611686018427387904) : ∀ (d i : Nat), i + d = l.length → Ev (fun k => interlockref01_Same.l0 k l l (i : Int)) true := by
  intro d
  induction d with
  | zero =>
    intro i hi
    exact Ev.step (fun k => by simp only [interlockref01_Same.l0]; rw [if_neg (by omega)]) (Ev.now _)
  | succ d ih =>
    intro i hi
    have h := ih (i + 1) (by omega)
    have E1 : Aside0 (wrap64 ((i : Int) + 1) = ((i + 1 : Nat) : Int)) := ⟨by rw [w64 (by omega) (by omega)]; rfl⟩
    exact Ev.step (fun k => by simp only [interlockref01_Same.l0]; rw [if_pos (by omega), if_pos (by omega), if_pos (by omega), if_true, E1.out]) h
theorem rsame_ev (l : List Int) (hl : l.length ≤ 4611686018427387904) : Ev (fun k => interlockref01_Same.f k l l) true :=
  Ev.congr (fun k => by unfold interlockref01_Same.f; rw [if_pos rfl]; rfl) (rsame_l0 l hl l.length 0 (by omega))
/-! All. -/
theorem rall_l0 (n : Int) : ∀ (d i : Nat), i + d = 64 → Ev (fun k => interlockref01_All.l0 k n (allN (if n < i then n else i) : Int) (i : Int)) (allN n : Int) := by
  intro d
  induction d with
  | zero =>
    intro i hi
    obtain rfl : i = 64 := by omega
    refine Ev.step (fun k => by simp only [interlockref01_All.l0]; rw [if_neg (by omega)]) ?_
    have e : allN (if n < ((64 : Nat) : Int) then n else ((64 : Nat) : Int)) = allN n := by
      by_cases h : n < ((64 : Nat) : Int)
      · rw [if_pos h]
      · rw [if_neg h]; unfold allN; rw [if_neg (by omega), if_pos (by omega), if_neg (by omega), if_pos (by omega)]
    rw [e]; exact Ev.now _
  | succ d ih =>
    intro i hi
    have h := ih (i + 1) (by omega)
    have E1 : Aside0 (wrap64 ((i : Int) + 1) = ((i + 1 : Nat) : Int)) := ⟨by rw [w64 (by omega) (by omega)]; rfl⟩
    refine Ev.step (fun k => by simp only [interlockref01_All.l0]; rw [if_pos (by omega), E1.out]) ?_
    by_cases hx : (i : Int) < n
    · refine Ev.congr (fun k => if_pos hx) (Ev.bind (two_ev i (by omega)) ?_)
      rw [if_neg (by omega)]
      rw [if_neg (by omega)] at h
      have hb : (allN (i : Int)).testBit i = false := by rw [allN_bit _ _ (by omega)]; exact decide_eq_false (by omega)
      have e : allN (i : Int) + 2 ^ i = allN ((i + 1 : Nat) : Int) := by
        rw [← or_add _ i (by omega) hb]
        exact set_ext' (Nat.or_lt_two_pow (n := 64) (allN_lt _) (pow_lt (by omega))) (allN_lt _) (fun j hj => by
          rw [Nat.testBit_or, allN_bit _ _ hj, allN_bit _ _ hj, Nat.testBit_two_pow, Bool.eq_iff_iff]
          simp; omega)
      rw [show (allN (i : Int) : Int) + ((2 ^ i : Nat) : Int) = ((allN (i : Int) + 2 ^ i : Nat) : Int) by omega, e, u64id (allN_lt _)]
      exact h
    · have e : allN (if n < (i : Int) then n else (i : Int)) = allN (if n < ((i + 1 : Nat) : Int) then n else ((i + 1 : Nat) : Int)) := by
        congr 1
        by_cases h2 : n < (i : Int)
        · rw [if_pos h2, if_pos (by omega)]
        · rw [if_neg h2, if_pos (by omega)]; omega
      rw [e]
      exact Ev.congr (fun k => if_neg hx) h
theorem rall_ev (n : Int) : Ev (fun k => interlockref01_All.f k n) (allN n : Int) := by
  have h := rall_l0 n 64 0 (by omega)
  have e : allN (if n < ((0 : Nat) : Int) then n else ((0 : Nat) : Int)) = 0 := by unfold allN; rw [if_pos (by split <;> omega)]
  rw [e] at h
  exact h
end Go.Proofs.YtjnijjpihfgimaaDoor.Th
