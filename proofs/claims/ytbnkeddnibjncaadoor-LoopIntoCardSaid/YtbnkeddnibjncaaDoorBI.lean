import Derived.Test.YtbnkeddnibjncaaDoorFY
import Derived.Test.YtbnkeddnibjncaaDoorPx4
namespace Go.Proofs.YtbnkeddnibjncaaDoor.Th
set_option linter.unusedVariables false
open Go Go.RowKit Go.Proofs.YtbnkeddnibjncaaDoor.P Go.Proofs.YtbnkeddnibjncaaDoor.Opn Go.Proofs.YtbnkeddnibjncaaDoorW.PrintWords Go.Proofs.YtbnkeddnibjncaaDoorW.PrintLast Go.Proofs.YtbnkeddnibjncaaDoorW.PrintMore
theorem u64w (n : Int) : IntKind.u64.wrap n = n % 18446744073709551616 := by simp [IntKind.wrap, IntKind.signed, IntKind.bits]
theorem u64id {n : Nat} (h : n < 18446744073709551616) : IntKind.u64.wrap (n : Int) = (n : Int) := by rw [u64w]; omega
theorem bv_nat (a : Nat) (ha : a < 18446744073709551616) : (BitVec.ofInt 64 (a : Int)).toNat = a := by
  rw [BitVec.ofInt_natCast, BitVec.toNat_ofNat]; exact Nat.mod_eq_of_lt (by omega)
theorem and_nat (a b : Nat) (ha : a < 18446744073709551616) (hb : b < 18446744073709551616) : Go.bits .and .u64 (a : Int) (b : Int) = ((a &&& b : Nat) : Int) := by
  have hx : a &&& b < 2 ^ 64 := Nat.and_lt_two_pow _ (by omega)
  show IntKind.u64.wrap ((BitVec.ofInt 64 (a : Int) &&& BitVec.ofInt 64 (b : Int)).toNat : Int) = _
  rw [BitVec.toNat_and, bv_nat a ha, bv_nat b hb, u64w]
  omega
theorem or_nat (a b : Nat) (ha : a < 18446744073709551616) (hb : b < 18446744073709551616) : Go.bits .or .u64 (a : Int) (b : Int) = ((a ||| b : Nat) : Int) := by
  have hx : a ||| b < 2 ^ 64 := Nat.or_lt_two_pow (by omega) (by omega)
  show IntKind.u64.wrap ((BitVec.ofInt 64 (a : Int) ||| BitVec.ofInt 64 (b : Int)).toNat : Int) = _
  rw [BitVec.toNat_or, bv_nat a ha, bv_nat b hb, u64w]
  omega
/-- What is in a and not in b. -/
def minus (a b : Nat) : Nat := a &&& (18446744073709551615 - b)
theorem minus_lt (a b : Nat) (ha : a < 18446744073709551616) : minus a b < 18446744073709551616 := Nat.lt_of_le_of_lt Nat.and_le_left ha
theorem andNot_nat (a b : Nat) (ha : a < 18446744073709551616) (hb : b < 18446744073709551616) : Go.bits .andNot .u64 (a : Int) (b : Int) = ((minus a b : Nat) : Int) := by
  have hx := minus_lt a b ha
  unfold minus at *
  show IntKind.u64.wrap ((BitVec.ofInt 64 (a : Int) &&& ~~~ BitVec.ofInt 64 (b : Int)).toNat : Int) = _
  rw [BitVec.toNat_and, BitVec.toNat_not, bv_nat a ha, bv_nat b hb, u64w]
  have e : 2 ^ 64 - 1 - b = 18446744073709551615 - b := by omega
  rw [e]
  omega
theorem minus_bit (a b i : Nat) (ha : a < 18446744073709551616) (hb : b < 18446744073709551616) : (minus a b).testBit i = (a.testBit i && !b.testBit i) := by
  unfold minus
  rw [Nat.testBit_and]
  have e : 18446744073709551615 - b = 2 ^ 64 - (b + 1) := by omega
  rw [e, Nat.testBit_two_pow_sub_succ (by omega)]
  by_cases h : i < 64
  · simp [h]
  · have h1 : a.testBit i = false := Nat.testBit_lt_two_pow (Nat.lt_of_lt_of_le ha (Nat.pow_le_pow_right (n := 2) (by decide) (by omega : 64 ≤ i)))
    simp [h1]
theorem bit_big {a i : Nat} (ha : a < 18446744073709551616) (hi : 64 ≤ i) : a.testBit i = false := Nat.testBit_lt_two_pow (Nat.lt_of_lt_of_le ha (Nat.pow_le_pow_right (n := 2) (by decide) hi))
theorem pow_lt {i : Nat} (h : i < 64) : 2 ^ i < 18446744073709551616 := Nat.pow_lt_pow_right (a := 2) (by decide) h
theorem set_ext {a b : Nat} (h : ∀ i, a.testBit i = b.testBit i) : a = b := Nat.eq_of_testBit_eq h
theorem set_ext' {a b : Nat} (ha : a < 18446744073709551616) (hb : b < 18446744073709551616) (h : ∀ i, i < 64 → a.testBit i = b.testBit i) : a = b :=
  Nat.eq_of_testBit_eq (fun i => by
    by_cases hi : i < 64
    · exact h i hi
    · rw [bit_big ha (by omega), bit_big hb (by omega)])

/-- The set of one number; of none, if it may not be. -/
def bitN (i : Int) : Nat := if 0 ≤ i ∧ i < 64 then 2 ^ i.toNat else 0
theorem bitN_lt (i : Int) : bitN i < 18446744073709551616 := by
  unfold bitN
  split
  · exact pow_lt (by omega)
  · decide
theorem bitN_bit (i : Int) (j : Nat) : (bitN i).testBit j = decide (i = j ∧ j < 64) := by
  unfold bitN
  by_cases h : 0 ≤ i ∧ i < 64
  · rw [if_pos h, Nat.testBit_two_pow]
    by_cases e : i = j
    · rw [decide_eq_true (by omega : i.toNat = j), decide_eq_true (⟨e, by omega⟩)]
    · rw [decide_eq_false (by omega : ¬ i.toNat = j), decide_eq_false (fun h => e h.1)]
  · rw [if_neg h, Nat.zero_testBit, decide_eq_false (fun h2 => h (by omega))]
theorem bit_f (i : Int) : bits_bit.f i = some (bitN i : Int) := by
  unfold bits_bit.f bitN
  by_cases h0 : i < 0
  · rw [if_pos h0, if_neg (by omega)]; rfl
  · by_cases h1 : i ≥ 64
    · rw [if_neg h0, if_pos h1, if_neg (by omega)]; rfl
    · rw [if_neg h0, if_neg h1, if_pos (by omega), if_pos (by omega)]
      obtain ⟨n, rfl⟩ := Int.eq_ofNat_of_zero_le (by omega : 0 ≤ i)
      have hn : n < 64 := by omega
      have hp := pow_lt hn
      unfold shl
      rw [show IntKind.u64.bits = 64 from rfl, Int.toNat_natCast, Nat.min_eq_left (by omega), Int.one_mul, show (2 : Int) ^ n = ((2 ^ n : Nat) : Int) by simp, u64id hp]
theorem has_f (s : Nat) (hs : s < 18446744073709551616) (i : Int) : bits_Has.f (s : Int) i = some (decide (0 ≤ i ∧ i < 64) && s.testBit i.toNat) := by
  unfold bits_Has.f
  rw [bit_f, Option.bind_some, and_nat s _ hs (bitN_lt i)]
  congr 1
  by_cases h : 0 ≤ i ∧ i < 64
  · obtain ⟨n, rfl⟩ := Int.eq_ofNat_of_zero_le h.1
    have hn : n < 64 := by omega
    have e : bitN n = 2 ^ n := by unfold bitN; rw [if_pos h]; simp
    rw [e, decide_eq_true h, Bool.true_and, Int.toNat_natCast]
    cases hb : s.testBit n with
    | true =>
      have : s &&& 2 ^ n ≠ 0 := fun e0 => by
        have h1 := congrArg (fun x => x.testBit n) e0
        simp [Nat.testBit_and, hb] at h1
      simp; omega
    | false =>
      have : s &&& 2 ^ n = 0 := set_ext (fun j => by
        rw [Nat.testBit_and, Nat.testBit_two_pow, Nat.zero_testBit]
        by_cases e : n = j
        · subst e; simp [hb]
        · simp [e])
      rw [this]; rfl
  · have e : bitN i = 0 := by unfold bitN; rw [if_neg h]
    rw [e, decide_eq_false h, Nat.and_zero]; rfl

/-! With and Without. -/
def withN (s : Nat) (l : List Int) : Nat := l.foldl (fun s i => s ||| bitN i) s
def withoutN (s : Nat) (l : List Int) : Nat := l.foldl (fun s i => minus s (bitN i)) s
theorem with_lt : ∀ (l : List Int) (s : Nat), s < 18446744073709551616 → withN s l < 18446744073709551616
  | [], s, h => h
  | i :: l, s, h => with_lt l _ (Nat.or_lt_two_pow (n := 64) h (bitN_lt i))
theorem without_lt : ∀ (l : List Int) (s : Nat), s < 18446744073709551616 → withoutN s l < 18446744073709551616
  | [], s, h => h
  | i :: l, s, h => without_lt l _ (minus_lt _ _ h)
theorem with_bit : ∀ (l : List Int) (s j : Nat), j < 64 → (withN s l).testBit j = (s.testBit j || l.contains (j : Int))
  | [], s, j, hj => by simp [withN]
  | i :: l, s, j, hj => by
    show (withN (s ||| bitN i) l).testBit j = _
    rw [with_bit l _ j hj, Nat.testBit_or, bitN_bit, List.contains_cons]
    by_cases e : i = j
    · subst e; simp [hj]
    · have e1 : ((j : Int) == i) = false := by simp; omega
      simp [e, e1]
theorem without_bit : ∀ (l : List Int) (s j : Nat), s < 18446744073709551616 → j < 64 → (withoutN s l).testBit j = (s.testBit j && !l.contains (j : Int))
  | [], s, j, hs, hj => by simp [withoutN]
  | i :: l, s, j, hs, hj => by
    show (withoutN (minus s (bitN i)) l).testBit j = _
    rw [without_bit l _ j (minus_lt _ _ hs) hj, minus_bit _ _ _ hs (bitN_lt i), bitN_bit, List.contains_cons]
    by_cases e : i = j
    · subst e; simp [hj]
    · have e1 : ((j : Int) == i) = false := by simp; omega
      simp [e, e1]
theorem rd_nat (l : List Int) (i : Nat) : rd l (i : Int) = l.getD i 0 := by simp [rd]
theorem drop_get (l : List Int) (i : Nat) (h : i < l.length) : l.drop i = l.getD i 0 :: l.drop (i + 1) := by
  rw [List.drop_eq_getElem_cons h, List.getD_eq_getElem?_getD, List.getElem?_eq_getElem h]; rfl
theorem with_l0 (l : List Int) (hl : l.length ≤ 4611686018427387904) : ∀ (d i s : Nat), i + d = l.length → s < 18446744073709551616 →
    Ev (fun k => bits_With.l0 k (s : Int) l (l.length : Int) (i : Int)) (withN s (l.drop i) : Int) := by
  intro d
  induction d with
  | zero =>
    intro i s hi hs
    refine Ev.step (fun k => by simp only [bits_With.l0]; rw [if_neg (by omega)]) ?_
    rw [List.drop_eq_nil_of_le (by omega)]; exact Ev.now _
  | succ d ih =>
    intro i s hi hs
    have h := ih (i + 1) (s ||| bitN (l.getD i 0)) (by omega) (Nat.or_lt_two_pow (n := 64) hs (bitN_lt _))
    rw [drop_get l i (by omega)]
    refine Ev.step (fun k => ?_) h
    simp only [bits_With.l0]
    rw [if_pos (by omega), if_pos (by omega), if_pos (by omega), bit_f, Option.bind_some, rd_nat, or_nat s _ hs (bitN_lt _), w64 (by omega) (by omega)]
    rfl
theorem with_ev (l : List Int) (hl : l.length ≤ 4611686018427387904) (s : Nat) (hs : s < 18446744073709551616) : Ev (fun k => bits_With.f k (s : Int) l) (withN s l : Int) := with_l0 l hl l.length 0 s (by omega) hs
/-! All. -/
def allN (n : Int) : Nat := if n ≤ 0 then 0 else if n ≥ 64 then 18446744073709551615 else 2 ^ n.toNat - 1
theorem allN_lt (n : Int) : allN n < 18446744073709551616 := by
  unfold allN
  split
  · decide
  · split
    · decide
    · have := pow_lt (i := n.toNat) (by omega); omega
theorem allN_bit (n : Int) (j : Nat) (hj : j < 64) : (allN n).testBit j = decide ((j : Int) < n) := by
  unfold allN
  by_cases h0 : n ≤ 0
  · rw [if_pos h0, Nat.zero_testBit, decide_eq_false (by omega)]
  · by_cases h1 : n ≥ 64
    · rw [if_neg h0, if_pos h1, show 18446744073709551615 = 2 ^ 64 - 1 from rfl, Nat.testBit_two_pow_sub_one, decide_eq_true hj, decide_eq_true (by omega)]
    · rw [if_neg h0, if_neg h1, Nat.testBit_two_pow_sub_one]
      exact decide_eq_decide.2 (by omega)
theorem all_f (n : Int) : bits_All.f n = some (allN n : Int) := by
  unfold bits_All.f allN
  by_cases h0 : n ≤ 0
  · rw [if_pos h0, if_pos h0]; rfl
  · by_cases h1 : n ≥ 64
    · rw [if_neg h0, if_pos h1, if_neg h0, if_pos h1]; rfl
    · rw [if_neg h0, if_neg h1, if_pos (by omega), if_neg h0, if_neg h1]
      obtain ⟨m, rfl⟩ := Int.eq_ofNat_of_zero_le (by omega : 0 ≤ n)
      have hm : m < 64 := by omega
      have hp := pow_lt hm
      have h1 : 1 ≤ 2 ^ m := Nat.one_le_two_pow
      unfold shl
      rw [show IntKind.u64.bits = 64 from rfl, Int.toNat_natCast, Nat.min_eq_left (by omega), Int.one_mul, show (2 : Int) ^ m = ((2 ^ m : Nat) : Int) by simp, u64id hp, show ((2 ^ m : Nat) : Int) - 1 = ((2 ^ m - 1 : Nat) : Int) by omega, u64id (by omega)]
end Go.Proofs.YtbnkeddnibjncaaDoor.Th
