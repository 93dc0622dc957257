import Derived.Test.YtfiemikganhgeaaGR
namespace Go.Proofs.Ytfiemikganhgeaa.Th
set_option linter.unusedVariables false
open Go Go.RowKit Go.Proofs.Ytfiemikganhgeaa.P Go.Proofs.Ytfiemikganhgeaa.Opn Go.Proofs.YtfiemikganhgeaaW.PrintWords Go.Proofs.YtfiemikganhgeaaW.PrintLast Go.Proofs.YtfiemikganhgeaaW.PrintMore
/-! What a solution says: nothing that nobody adds; more where more is added. -/
theorem trN_bit (k g x i : Nat) (hi : i < 64) (h : (trN k g x).testBit i = true) : x.testBit i = true ∨ g.testBit i = true := by
  unfold trN at h
  rw [Nat.testBit_or, Nat.testBit_and, Bool.or_eq_true, Bool.and_eq_true] at h
  exact h.elim (fun c => .inl c.1) .inr
theorem inn_sub {S : Sys} (hm : S.must = false) {A : Nat} (hs : Le false S.start A) {o : Nat → Nat} {i : Nat} (ho : ∀ k ∈ S.src i, Le false (o k) A) : Le false (S.inn o i) A := by
  intro j hj
  have h := inN_bit S.must (S.edge i) S.start ((S.src i).map o) hj
  have h1 := hs j hj
  simp only [Bool.false_eq_true, if_false] at h1 ⊢
  unfold Sys.inn
  rw [h, hm, if_neg (by simp), Bool.or_eq_true, Bool.and_eq_true, List.any_eq_true]
  rintro (c | ⟨x, hx, hc⟩)
  · exact h1 c.2
  · obtain ⟨k, hk, rfl⟩ := List.mem_map.1 hx
    have := ho k hk j hj
    simp only [Bool.false_eq_true, if_false] at this
    exact this hc
theorem out_sub {S : Sys} (hm : S.must = false) {A : Nat} (hs : Le false S.start A) (hg : ∀ i, Le false (S.gen i) A) {o : Nat → Nat} {i : Nat} (ho : ∀ k ∈ S.src i, Le false (o k) A) : Le false (S.out o i) A := by
  intro j hj
  have h1 := inn_sub hm hs ho j hj
  have h2 := hg i j hj
  simp only [Bool.false_eq_true, if_false] at h1 h2 ⊢
  intro h
  exact (trN_bit _ _ _ j hj h).elim h1 h2
theorem Sol.sub {S : Sys} {a b : Nat → Nat} (hS : S.Ok) (h : Sol S a b) (hm : S.must = false) {A : Nat} (hA : A < U) (hs : Le false S.start A) (hg : ∀ i, Le false (S.gen i) A) : ∀ i, i < S.n → Le false (a i) A ∧ Le false (b i) A := by
  have hb : ∀ i, i < S.n → Le false (b i) A := fun i hi => by
    have := h.least (fun _ => A) ⟨fun _ _ => hA, fun i hi => by rw [hm]; exact out_sub hm hs hg (fun k hk => Le.refl _ _)⟩ i hi
    rwa [hm] at this
  refine fun i hi => ⟨?_, hb i hi⟩
  rw [h.ins i hi]
  exact inn_sub hm hs (fun k hk => hb k (hS.src_lt i hi k hk))
theorem sub_minus {a A : Nat} (ha : a < U) (hA : A < U) (h : Le false a A) : minus a A = 0 := by
  refine set_ext' (minus_lt a A ha) (by decide) (fun i hi => ?_)
  rw [minus_bit a A i ha hA, Nat.zero_testBit]
  have := h i hi
  simp only [Bool.false_eq_true, if_false] at this
  cases hc : a.testBit i with
  | false => rfl
  | true => rw [this hc]; rfl
theorem sub_zero {a : Nat} (ha : a < U) (h : Le false a 0) : a = 0 := by
  refine set_ext' ha (by decide) (fun i hi => ?_)
  have := h i hi
  simp only [Bool.false_eq_true, if_false, Nat.zero_testBit] at this
  rw [Nat.zero_testBit]
  cases hc : a.testBit i with
  | false => rfl
  | true => exact absurd (this hc) (by simp)
theorem Sol.alt {S : Sys} {a b : Nat → Nat} (hS : S.Ok) (h : Sol S a b) : ∀ i, i < S.n → a i < U ∧ b i < U := fun i hi => ⟨by rw [h.ins i hi]; exact inn_lt hS h.bd hi, h.bd i hi⟩
/-- All that is added, and what is at the beginning. -/
def allN (l : List Nat) (s : Nat) : Nat := l.foldl (fun a b => a ||| b) s
theorem allN_lt : ∀ (l : List Nat) (s : Nat), s < U → (∀ x ∈ l, x < U) → allN l s < U
  | [], s, hs, _ => hs
  | x :: l, s, hs, h => allN_lt l _ (Nat.or_lt_two_pow (n := 64) hs (h x List.mem_cons_self)) (fun y hy => h y (List.mem_cons_of_mem _ hy))
theorem Le.or_l (a b : Nat) : Le false a (a ||| b) := fun i _ => by
  simp only [Bool.false_eq_true, if_false]; intro h; rw [Nat.testBit_or, h]; rfl
theorem Le.or_r (a b : Nat) : Le false b (a ||| b) := fun i _ => by
  simp only [Bool.false_eq_true, if_false]; intro h; rw [Nat.testBit_or, h]; simp
theorem allN_start : ∀ (l : List Nat) (s : Nat), Le false s (allN l s)
  | [], s => Le.refl _ _
  | x :: l, s => (Le.or_l s x).trans (allN_start l _)
theorem allN_mem : ∀ (l : List Nat) (s : Nat) (x : Nat), x ∈ l → Le false x (allN l s)
  | y :: l, s, x, h => by
    rcases List.mem_cons.1 h with rfl | h
    · exact (Le.or_r s x).trans (allN_start l _)
    · exact allN_mem l _ x h
theorem Le.zero (A : Nat) : Le false 0 A := fun i _ => by simp
end Go.Proofs.Ytfiemikganhgeaa.Th
