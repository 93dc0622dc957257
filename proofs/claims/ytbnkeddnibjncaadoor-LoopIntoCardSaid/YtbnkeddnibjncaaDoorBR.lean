import Derived.Test.YtbnkeddnibjncaaDoorLS
namespace Go.Proofs.YtbnkeddnibjncaaDoor.Th
set_option linter.unusedVariables false
open Go Go.RowKit Go.Proofs.YtbnkeddnibjncaaDoor.P Go.Proofs.YtbnkeddnibjncaaDoor.Opn Go.Proofs.YtbnkeddnibjncaaDoorW.PrintWords Go.Proofs.YtbnkeddnibjncaaDoorW.PrintLast Go.Proofs.YtbnkeddnibjncaaDoorW.PrintMore
theorem two_l0 (n : Nat) (hn : n < 64) : ∀ (d i : Nat), i + d = n → Ev (fun k => interlockref01_two.l0 k (n : Int) ((2 ^ i : Nat) : Int) (i : Int)) ((2 ^ n : Nat) : Int) := by
  intro d
  induction d with
  | zero =>
    intro i hi
    obtain rfl : i = n := by omega
    exact Ev.step (fun k => by simp only [interlockref01_two.l0]; rw [if_neg (by omega)]) (Ev.now _)
  | succ d ih =>
    intro i hi
    have h := ih (i + 1) (by omega)
    have hp : 2 * 2 ^ i < 18446744073709551616 := by rw [Nat.mul_comm, ← Nat.pow_succ]; exact pow_lt (by omega)
    have e : IntKind.u64.wrap (2 * ((2 ^ i : Nat) : Int)) = ((2 ^ (i + 1) : Nat) : Int) := by
      rw [show 2 * ((2 ^ i : Nat) : Int) = ((2 * 2 ^ i : Nat) : Int) by omega, u64id hp, Nat.pow_succ, Nat.mul_comm]
    have E := Aside0.mk e
    clear e
    refine Ev.step (fun k => ?_) h
    simp only [interlockref01_two.l0]
    rw [if_pos (by omega), E.out, w64 (by omega) (by omega)]
    rfl
theorem two_ev (n : Nat) (hn : n < 64) : Ev (fun k => interlockref01_two.f k (n : Int)) ((2 ^ n : Nat) : Int) := two_l0 n hn n 0 (by omega)
theorem tmod_nat (a b : Nat) : Int.tmod (a : Int) (b : Int) = ((a % b : Nat) : Int) := rfl
theorem tdiv_nat (a b : Nat) : Int.tdiv (a : Int) (b : Int) = ((a / b : Nat) : Int) := rfl
theorem rhas_ev (s : Nat) (hs : s < 18446744073709551616) (i : Int) : Ev (fun k => interlockref01_Has.f k (s : Int) i) (decide (0 ≤ i ∧ i < 64) && s.testBit i.toNat) := by
  by_cases h0 : i ≥ 0
  · by_cases h1 : i < 64
    · obtain ⟨n, rfl⟩ := Int.eq_ofNat_of_zero_le h0
      have hn : n < 64 := by omega
      refine Ev.congr (fun k => by unfold interlockref01_Has.f; rw [if_pos h0, if_pos h1]) (Ev.bind (two_ev n hn) ?_)
      have hp : 1 ≤ 2 ^ n := Nat.one_le_two_pow
      have hq : s / 2 ^ n < 18446744073709551616 := Nat.lt_of_le_of_lt (Nat.div_le_self _ _) hs
      refine Ev.congr (fun k => if_neg (by omega)) ?_
      rw [tdiv_nat, u64id hq, show (2 : Int) = ((2 : Nat) : Int) from rfl, tmod_nat, decide_eq_true ⟨h0, h1⟩, Bool.true_and, Int.toNat_natCast, Nat.testBit_eq_decide_div_mod_eq]
      have e : (((s / 2 ^ n % 2 : Nat) : Int) == 1) = decide (s / 2 ^ n % 2 = 1) := by
        rw [Bool.eq_iff_iff, beq_iff_eq, decide_eq_true_iff]; omega
      rw [e]; exact Ev.now _
    · rw [decide_eq_false (by omega), Bool.false_and]
      exact Ev.congr (fun k => by unfold interlockref01_Has.f; rw [if_pos h0, if_neg h1]) (Ev.now _)
  · rw [decide_eq_false (by omega), Bool.false_and]
    exact Ev.congr (fun k => by unfold interlockref01_Has.f; rw [if_neg h0]) (Ev.now _)
theorem or_add (s n : Nat) (hn : n < 64) (hb : s.testBit n = false) : s ||| 2 ^ n = s + 2 ^ n := by
  apply Nat.eq_of_testBit_eq
  intro i
  rw [Nat.testBit_or, Nat.testBit_two_pow]
  by_cases e : n = i
  · subst e
    rw [decide_eq_true rfl, Bool.or_true, Nat.add_comm, Nat.testBit_two_pow_add_eq, hb]; rfl
  · rw [decide_eq_false e, Bool.or_false]
    by_cases hlt : i < n
    · rw [Nat.add_comm, Nat.testBit_two_pow_add_gt hlt]
    · have h1 : s = 2 ^ (n + 1) * (s / 2 ^ (n + 1)) + s % 2 ^ (n + 1) := (Nat.div_add_mod _ _).symm
      have h2 : s % 2 ^ (n + 1) < 2 ^ n := by
        apply Nat.lt_of_not_le
        intro h3
        have h4 : (s % 2 ^ (n + 1)).testBit n = true := by
          apply Nat.testBit_of_two_pow_le_and_two_pow_add_one_gt h3
          exact Nat.mod_lt _ (Nat.two_pow_pos _)
        rw [Nat.testBit_mod_two_pow] at h4
        simp [hb] at h4
      have h5 : s + 2 ^ n = 2 ^ (n + 1) * (s / 2 ^ (n + 1)) + (s % 2 ^ (n + 1) + 2 ^ n) := by omega
      have h6 : s % 2 ^ (n + 1) + 2 ^ n < 2 ^ (n + 1) := by
        have h8 : 2 ^ (n + 1) = 2 ^ n * 2 := Nat.pow_succ 2 n
        generalize s % 2 ^ (n + 1) = r at h2
        generalize 2 ^ (n + 1) = q at h8
        omega
      have h7 : s % 2 ^ (n + 1) < 2 ^ (n + 1) := Nat.mod_lt _ (Nat.two_pow_pos _)
      rw [h5, Nat.testBit_two_pow_mul_add _ h6, if_neg (by omega)]
      conv => lhs; rw [h1, Nat.testBit_two_pow_mul_add _ h7, if_neg (by omega)]
theorem minus_sub (s n : Nat) (hs : s < 18446744073709551616) (hn : n < 64) (hb : s.testBit n = true) : minus s (2 ^ n) = s - 2 ^ n := by
  have h1 : (minus s (2 ^ n)).testBit n = false := by rw [minus_bit _ _ _ hs (pow_lt hn)]; simp
  have h2 := or_add (minus s (2 ^ n)) n hn h1
  have h3 : minus s (2 ^ n) ||| 2 ^ n = s := set_ext (fun i => by
    rw [Nat.testBit_or, minus_bit _ _ _ hs (pow_lt hn), Nat.testBit_two_pow]
    by_cases e : n = i
    · subst e; simp [hb]
    · simp [e])
  omega
theorem minus_no (s n : Nat) (hs : s < 18446744073709551616) (hn : n < 64) (hb : s.testBit n = false) : minus s (2 ^ n) = s := set_ext (fun i => by
  rw [minus_bit _ _ _ hs (pow_lt hn), Nat.testBit_two_pow]
  by_cases e : n = i
  · subst e; simp [hb]
  · simp [e])
theorem or_yes (s n : Nat) (hb : s.testBit n = true) : s ||| 2 ^ n = s := set_ext (fun i => by
  rw [Nat.testBit_or, Nat.testBit_two_pow]
  by_cases e : n = i
  · subst e; simp [hb]
  · simp [e])
theorem bitN_in {n : Nat} (h : n < 64) : bitN (n : Int) = 2 ^ n := by unfold bitN; rw [if_pos (by omega)]; simp
theorem bitN_out {i : Int} (h : ¬ (0 ≤ i ∧ i < 64)) : bitN i = 0 := by unfold bitN; rw [if_neg h]
theorem minus_zero (s : Nat) (hs : s < 18446744073709551616) : minus s 0 = s := set_ext (fun i => by rw [minus_bit _ _ _ hs (by decide)]; simp)
theorem rwith_l0 (l : List Int) (hl : l.length ≤ 4611686018427387904) : ∀ (d i s : Nat), i + d = l.length → s < 18446744073709551616 →
    Ev (fun k => interlockref01_With.l0 k (s : Int) l (i : Int)) (withN s (l.drop i) : Int) := by
  intro d
  induction d with
  | zero =>
    intro i s hi hs
    refine Ev.step (fun k => by simp only [interlockref01_With.l0]; rw [if_neg (by omega)]) ?_
    rw [List.drop_eq_nil_of_le (by omega)]; exact Ev.now _
  | succ d ih =>
    intro i s hi hs
    have h := ih (i + 1) (s ||| bitN (l.getD i 0)) (by omega) (Nat.or_lt_two_pow (n := 64) hs (bitN_lt _))
    rw [drop_get l i (by omega)]
    have E1 : Aside0 (wrap64 ((i : Int) + 1) = ((i + 1 : Nat) : Int)) := ⟨by rw [w64 (by omega) (by omega)]; rfl⟩
    have goal_ : Ev (fun k => interlockref01_With.l0 k (s : Int) l (i : Int)) (withN (s ||| bitN (l.getD i 0)) (l.drop (i + 1)) : Int) := by
      refine Ev.step (fun k => by simp only [interlockref01_With.l0]; rw [if_pos (by omega), if_pos (by omega), rd_nat, E1.out]) ?_
      generalize l.getD i 0 = x at h ⊢
      by_cases h0 : x ≥ 0
      · by_cases h1 : x < 64
        · obtain ⟨n, rfl⟩ := Int.eq_ofNat_of_zero_le h0
          have hn : n < 64 := by omega
          rw [bitN_in hn] at h ⊢
          refine Ev.congr (fun k => by rw [if_pos h0, if_pos h1]) (Ev.bind (rhas_ev s hs n) ?_)
          rw [decide_eq_true ⟨h0, h1⟩, Bool.true_and, Int.toNat_natCast]
          cases hb : s.testBit n with
          | true =>
            rw [or_yes s n hb] at h ⊢
            exact Ev.congr (fun k => if_pos rfl) h
          | false =>
            have e := or_add s n hn hb
            have hlt : s ||| 2 ^ n < 18446744073709551616 := Nat.or_lt_two_pow (n := 64) hs (pow_lt hn)
            refine Ev.congr (fun k => if_neg (by decide)) (Ev.bind (two_ev n hn) ?_)
            rw [e] at hlt
            rw [show (s : Int) + ((2 ^ n : Nat) : Int) = ((s + 2 ^ n : Nat) : Int) by omega, u64id hlt, ← e]
            exact h
        · rw [bitN_out (by omega), Nat.or_zero] at h ⊢
          exact Ev.congr (fun k => by rw [if_pos h0, if_neg h1]) h
      · rw [bitN_out (by omega), Nat.or_zero] at h ⊢
        exact Ev.congr (fun k => by rw [if_neg h0]) h
    exact goal_
theorem rwith_ev (l : List Int) (hl : l.length ≤ 4611686018427387904) (s : Nat) (hs : s < 18446744073709551616) : Ev (fun k => interlockref01_With.f k (s : Int) l) (withN s l : Int) := rwith_l0 l hl l.length 0 s (by omega) hs
end Go.Proofs.YtbnkeddnibjncaaDoor.Th
