import Derived.Lib.TrailingZeros
namespace Go.Proofs.YtbnkeddnibjncaaDoor.Pl
open Go
/-- The numbers of a set, rising. -/
def bnums (s : Nat) : List Nat := (List.range 64).filter s.testBit
theorem bnums_zero : bnums 0 = [] := by simp [bnums]
theorem mem_bnums (s i : Nat) : i ∈ bnums s ↔ i < 64 ∧ s.testBit i = true := by simp [bnums]
theorem bnums_step (s : Nat) (h0 : s ≠ 0) (h : s < 18446744073709551616) : bnums s = Lib.ctz 64 s :: bnums (s &&& (s - 1)) ∧ Lib.ctz 64 s < 64 := by
  obtain ⟨m, hm, hk⟩ := Lib.ctzFrom_spec 64 s (by omega) h
  have e : Lib.ctz 64 s = Lib.ctzFrom 64 s := by simp [Lib.ctz, h0]
  rw [e]
  generalize Lib.ctzFrom 64 s = k at hm hk
  refine ⟨?_, hk⟩
  have hx : ∀ i, s.testBit i = (decide (k ≤ i) && (2 * m + 1).testBit (i - k)) := fun i => by
    rw [hm, Nat.mul_comm, Nat.testBit_mul_two_pow]
  have hp : 1 ≤ 2 ^ k := Nat.one_le_two_pow
  have hy : ∀ i, (s - 1).testBit i = (if i < k then true else (2 * m).testBit (i - k)) := fun i => by
    have e1 : s - 1 = 2 ^ k * (2 * m) + (2 ^ k - 1) := by
      rw [hm, Nat.mul_add]
      omega
    rw [e1, Nat.testBit_two_pow_mul_add _ (by omega)]
    by_cases hi : i < k
    · simp [hi, Nat.testBit_two_pow_sub_one]
    · simp [hi]
  have hz : ∀ i, (s &&& (s - 1)).testBit i = (decide (k < i) && s.testBit i) := fun i => by
    rw [Nat.testBit_and, hy, hx]
    by_cases h1 : k < i
    · obtain ⟨j, rfl⟩ : ∃ j, i = k + (j + 1) := ⟨i - k - 1, by omega⟩
      have e3 : k + (j + 1) - k = j + 1 := by omega
      have n1 : ¬ k + (j + 1) < k := by omega
      simp only [e3, Nat.testBit_succ, n1, if_false, h1, decide_true, Bool.true_and]
      have d1 : (2 * m + 1) / 2 = m := by omega
      have d2 : 2 * m / 2 = m := by omega
      rw [d1, d2]
      simp
    · by_cases h2 : i < k
      · have n1 : ¬ k ≤ i := by omega
        simp [n1]
      · obtain rfl : i = k := by omega
        simp [Nat.testBit_zero]
  have hr : List.range 64 = List.range' 0 k ++ k :: List.range' (k + 1) (63 - k) := by
    have e1 : k :: List.range' (k + 1) (63 - k) = List.range' (0 + k) (63 - k + 1) := by rw [List.range'_succ, Nat.zero_add]
    rw [e1, List.range'_append_1, List.range_eq_range']
    congr 1
    omega
  have f1 : ∀ (l : List Nat) (p : Nat → Bool), (∀ i ∈ l, p i = false) → l.filter p = [] := fun l p h => List.filter_eq_nil_iff.2 (fun i hi => by rw [h i hi]; simp)
  unfold bnums
  rw [hr, List.filter_append, List.filter_append, List.filter_cons, List.filter_cons]
  have hk1 : s.testBit k = true := by rw [hx]; simp [Nat.testBit_zero]
  have hk2 : (s &&& (s - 1)).testBit k = false := by rw [hz]; simp
  rw [hk1, hk2, f1 _ s.testBit (fun i hi => by rw [hx]; have := List.mem_range'_1.1 hi; have n1 : ¬ k ≤ i := by omega
                                               simp [n1]), f1 _ (s &&& (s - 1)).testBit (fun i hi => by rw [hz]; have := List.mem_range'_1.1 hi; have n1 : ¬ k < i := by omega
                                                                                                        simp [n1])]
  simp only [if_true, List.nil_append, Bool.false_eq_true, if_false]
  congr 1
  apply List.filter_congr
  intro i hi
  have := List.mem_range'_1.1 hi
  rw [hz]
  have n1 : k < i := by omega
  simp [n1]
end Go.Proofs.YtbnkeddnibjncaaDoor.Pl
