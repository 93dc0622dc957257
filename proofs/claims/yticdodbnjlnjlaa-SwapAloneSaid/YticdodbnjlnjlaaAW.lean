import Derived.Test.YticdodbnjlnjlaaTA
import Derived.Test.YticdodbnjlnjlaaVh
namespace Go.Proofs.Yticdodbnjlnjlaa.Th
set_option linter.unusedVariables false
open Go Go.RowKit Go.Proofs.Yticdodbnjlnjlaa.P Go.Proofs.YticdodbnjlnjlaaW.PrintWords Go.Proofs.YticdodbnjlnjlaaW.PrintLast Go.Proofs.YticdodbnjlnjlaaW.PrintMore
/-! One thread alone: two plain ones that are apart change places, and it comes to the same. -/
abbrev I3 := S33
def inc (ls : Nat → List Int) : Nat → List Int := P.st ls 0 0 (wrap64 (rd (ls 0) 0 + 1))
/-- What a plain one writes: where, and what. -/
def pj (i : I3) : Nat := if i.f0 = 8 then 4 else 2
def pv (ls : Nat → List Int) (i : I3) : Int :=
  if i.f0 = 1 then i.f2
  else if i.f0 = 2 then rd (ls 2) i.f2
  else if i.f0 = 3 then wrap64 (rd (ls 2) i.f2 + rd (ls 2) i.f3)
  else if i.f0 = 4 then wrap64 (rd (ls 2) i.f2 - rd (ls 2) i.f3)
  else if i.f0 = 5 then wrap64 (rd (ls 2) i.f2 * rd (ls 2) i.f3)
  else if i.f0 = 6 then (if rd (ls 2) i.f2 < rd (ls 2) i.f3 then 1 else 0)
  else if i.f0 = 7 then rd (ls 4) i.f2
  else rd (ls 2) i.f2
def pe (ls : Nat → List Int) (i : I3) : Nat → List Int := if i.f0 = 0 then ls else P.st ls (pj i) i.f1 (pv ls i)
theorem nine {o : Int} (h0 : 0 ≤ o) (h : o ≤ 8) : o = 0 ∨ o = 1 ∨ o = 2 ∨ o = 3 ∨ o = 4 ∨ o = 5 ∨ o = 6 ∨ o = 7 ∨ o = 8 := by omega
theorem plain_step (ls : Nat → List Int) (tr : Int) (i : I3) (h0 : 0 ≤ i.f0) (h : i.f0 ≤ 8) : stepF ls tr i = (pe (inc ls) i, tr) := by
  obtain ⟨o, a, b, c⟩ := i
  rcases nine h0 h with h | h | h | h | h | h | h | h | h <;> (have h : o = _ := h; subst h; rfl)
theorem blocked_plain (pc : List Int) (ls : Nat → List Int) (i : I3) (h : i.f0 ≤ 8) : blockedF pc ls i = false := by
  unfold blockedF
  rw [if_neg (by omega), if_neg (by omega), if_neg (by omega), if_neg (by omega), if_neg (by omega), if_neg (by omega)]
theorem pj_ne (i : I3) : (0 : Nat) ≠ pj i := by unfold pj; split <;> decide
theorem pe_zero (ls : Nat → List Int) (i : I3) : pe ls i 0 = ls 0 := by
  unfold pe; split
  · rfl
  · exact st_at _ _ _ _ (pj_ne i)
theorem st_comm (L : Nat → List Int) (j k : Nat) (a b v w : Int) (h : j ≠ k ∨ a.toNat ≠ b.toNat) : P.st (P.st L j a v) k b w = P.st (P.st L k b w) j a v := by
  funext q
  unfold P.st P.up
  by_cases e : j = k
  · subst e
    have h : a.toNat ≠ b.toNat := h.elim (fun c => absurd rfl c) id
    by_cases hq : q = j
    · simp only [if_pos hq, if_true]
      exact List.set_comm _ _ h
    · simp only [if_neg hq]
  · have e' : ¬ k = j := fun c => e c.symm
    by_cases hq : q = j
    · subst hq
      simp only [if_neg e, if_neg e', if_true]
    · by_cases hk : q = k
      · subst hk
        simp only [if_neg e, if_neg e', if_true]
      · simp only [if_neg hq, if_neg hk]
theorem rd_far (L : Nat → List Int) (j : Nat) (a v : Int) (q : Nat) (r : Int) (h : q = j → a.toNat ≠ r.toNat) : rd (P.st L j a v q) r = rd (L q) r := by
  unfold P.st P.up
  by_cases e : q = j
  · rw [if_pos e]
    subst e
    simp [rd, List.getD_eq_getElem?_getD, h rfl]
  · rw [if_neg e]
theorem pv_far (L : Nat → List Int) (j : Nat) (a v : Int) (y : I3) (h2 : j = 2 → (2 ≤ y.f0 → y.f0 ≤ 8 → y.f0 ≠ 7 → a.toNat ≠ y.f2.toNat) ∧ (3 ≤ y.f0 → y.f0 ≤ 6 → a.toNat ≠ y.f3.toNat)) (h4 : j = 4 → y.f0 = 7 → a.toNat ≠ y.f2.toNat) (hy0 : 1 ≤ y.f0) (hy : y.f0 ≤ 8) : pv (P.st L j a v) y = pv L y := by
  have e1 : 2 ≤ y.f0 → y.f0 ≠ 7 → rd (P.st L j a v 2) y.f2 = rd (L 2) y.f2 := fun h7 h8 => rd_far _ _ _ _ _ _ (fun e => (h2 e.symm).1 h7 hy h8)
  have e2 : 3 ≤ y.f0 → y.f0 ≤ 6 → rd (P.st L j a v 2) y.f3 = rd (L 2) y.f3 := fun h7 h8 => rd_far _ _ _ _ _ _ (fun e => (h2 e.symm).2 h7 h8)
  unfold pv
  by_cases c1 : y.f0 = 1
  · rw [if_pos c1, if_pos c1]
  rw [if_neg c1, if_neg c1]
  by_cases c2 : y.f0 = 2
  · rw [if_pos c2, if_pos c2, e1 (by omega) (by omega)]
  rw [if_neg c2, if_neg c2]
  by_cases c7 : y.f0 = 7
  · rw [if_neg (by omega), if_neg (by omega), if_neg (by omega), if_neg (by omega), if_pos c7, if_neg (by omega), if_neg (by omega), if_neg (by omega), if_neg (by omega), if_pos c7]
    exact rd_far _ _ _ _ _ _ (fun e => h4 e.symm c7)
  rw [e1 (by omega) c7]
  by_cases c8 : y.f0 = 8
  · rw [if_neg (by omega), if_neg (by omega), if_neg (by omega), if_neg (by omega), if_neg (by omega), if_neg (by omega), if_neg (by omega), if_neg (by omega), if_neg (by omega), if_neg (by omega)]
  rw [e2 (by omega) (by omega), if_neg c7, if_neg c7]
/-- Registers and variables of a plain one. -/
structure PR (x : I3) : Prop where
  o0 : 0 ≤ x.f0
  o8 : x.f0 ≤ 8
  a : 1 ≤ x.f0 → x.f0 ≤ 7 → 0 ≤ x.f1 ∧ x.f1 < 64
  b : 2 ≤ x.f0 → x.f0 ≠ 7 → 0 ≤ x.f2 ∧ x.f2 < 64
  c : 3 ≤ x.f0 → x.f0 ≤ 6 → 0 ≤ x.f3 ∧ x.f3 < 64
  v1 : x.f0 = 8 → 0 ≤ x.f1
  v2 : x.f0 = 7 → 0 ≤ x.f2
theorem reg_bit (s : Shp) (x : Nat → Int) (wd : Int) (k : Nat) (hw : s.w k = wd) (h0 : 0 ≤ x k) (h4 : x k < 64) : ∀ n, k < n → (regN s x wd n).testBit (x k).toNat = true
  | 0, h => by omega
  | n + 1, h => by
    by_cases e : k = n
    · subst e
      unfold regN
      rw [if_pos hw, Th.with_bit _ _ _ (by omega)]
      simp [Int.toNat_of_nonneg h0]
    · have ih := reg_bit s x wd k hw h0 h4 n (by omega)
      unfold regN
      split
      · rw [Th.with_bit _ _ _ (by omega), ih]; rfl
      · exact ih
theorem sM_at {x : I3} (h : PR x) (h1 : 1 ≤ x.f0) (h7 : x.f0 ≤ 7) : (sM x).testBit x.f1.toNat = true := by
  have hr := h.a h1 h7
  obtain ⟨o, a, b, c⟩ := x
  refine reg_bit _ _ _ 0 ?_ hr.1 hr.2 3 (by omega)
  rcases nine h.o0 h.o8 with e | e | e | e | e | e | e | e | e <;> (have e : o = _ := e; subst e; first | rfl | (exfalso; dsimp only at h1 h7; omega))
theorem uM_b {x : I3} (h : PR x) (h1 : 2 ≤ x.f0) (h7 : x.f0 ≠ 7) : (uM x).testBit x.f2.toNat = true := by
  have hr := h.b h1 h7
  obtain ⟨o, a, b, c⟩ := x
  refine reg_bit _ _ _ 1 ?_ hr.1 hr.2 3 (by omega)
  rcases nine h.o0 h.o8 with e | e | e | e | e | e | e | e | e <;> (have e : o = _ := e; subst e; first | rfl | (exfalso; dsimp only at h1 h7; omega))
theorem uM_c {x : I3} (h : PR x) (h1 : 3 ≤ x.f0) (h7 : x.f0 ≤ 6) : (uM x).testBit x.f3.toNat = true := by
  have hr := h.c h1 h7
  obtain ⟨o, a, b, c⟩ := x
  refine reg_bit _ _ _ 2 ?_ hr.1 hr.2 3 (by omega)
  rcases nine h.o0 h.o8 with e | e | e | e | e | e | e | e | e <;> (have e : o = _ := e; subst e; first | rfl | (exfalso; dsimp only at h1 h7; omega))
theorem and_no {m n r : Nat} (h : m &&& n = 0) (h1 : m.testBit r = true) (h2 : n.testBit r = true) : False := by
  have := congrArg (fun q => Nat.testBit q r) h
  simp only [Nat.testBit_and, h1, h2, Nat.zero_testBit] at this
  cases this
/-- What x writes, y does not read. -/
theorem pv_apart {x y : I3} (hx : PR x) (hy : PR y) (h1 : sM x &&& uM y = 0) (h2 : clashB x y = false) (hx0 : 1 ≤ x.f0) (hy0 : 1 ≤ y.f0) (L : Nat → List Int) (v : Int) : pv (P.st L (pj x) x.f1 v) y = pv L y := by
  have nat : ∀ {p q : Int}, 0 ≤ p → 0 ≤ q → p.toNat = q.toNat → p = q := fun h1 h2 h3 => by omega
  refine pv_far L _ _ v y (fun e => ?_) (fun e e7 c => ?_) hy0 hy.o8
  · have hx7 : x.f0 ≤ 7 := by
      unfold pj at e
      have := hx.o8
      split at e
      · cases e
      · omega
    have hs := sM_at hx hx0 hx7
    exact ⟨fun a1 a2 a3 c => and_no h1 hs (by rw [c]; exact uM_b hy a1 a3), fun a1 a2 c => and_no h1 hs (by rw [c]; exact uM_c hy a1 a2)⟩
  · have e8 : x.f0 = 8 := by
      unfold pj at e
      split at e
      · assumption
      · cases e
    have e1 := nat (hx.v1 e8) (hy.v2 e7) c
    unfold clashB tb tv at h2
    rw [decide_eq_true e8, decide_eq_true e7, if_pos e7, if_pos e8, if_neg (by omega), decide_eq_true e1] at h2
    simp at h2
theorem clash_comm {x y : I3} (h : clashB x y = false) : clashB y x = false := by
  rw [← h]
  unfold clashB
  rw [Bool.and_comm (tb y), Bool.or_comm, show decide (tv y = tv x) = decide (tv x = tv y) from decide_eq_decide.2 eq_comm]
theorem and_or {a b c : Nat} (h : a &&& (b ||| c) = 0) : a &&& b = 0 ∧ a &&& c = 0 := by
  constructor <;> (apply Nat.eq_of_testBit_eq; intro i; have := congrArg (fun q => Nat.testBit q i) h; simp only [Nat.testBit_and, Nat.testBit_or, Nat.zero_testBit] at this ⊢; revert this; cases a.testBit i <;> cases b.testBit i <;> cases c.testBit i <;> decide)
theorem pe_comm {x y : I3} (hx : PR x) (hy : PR y) (h : apB x y = true) (L : Nat → List Int) : pe (pe L x) y = pe (pe L y) x := by
  unfold apB clear1 clear2 at h
  simp only [Bool.and_eq_true, Bool.not_eq_true', decide_eq_true_eq] at h
  obtain ⟨⟨_, hcl⟩, h1, h2⟩ := h
  obtain ⟨h1, h3⟩ := and_or h1
  by_cases x0 : x.f0 = 0
  · unfold pe; rw [if_pos x0, if_pos x0]
  by_cases y0 : y.f0 = 0
  · unfold pe; rw [if_pos y0, if_pos y0]
  have hx1 : 1 ≤ x.f0 := by have := hx.o0; omega
  have hy1 : 1 ≤ y.f0 := by have := hy.o0; omega
  have ex : ∀ L, pe L x = P.st L (pj x) x.f1 (pv L x) := fun L => if_neg x0
  have ey : ∀ L, pe L y = P.st L (pj y) y.f1 (pv L y) := fun L => if_neg y0
  rw [ex, ey, ey, ex, pv_apart hx hy h1 hcl hx1 hy1, pv_apart hy hx h2 (clash_comm hcl) hy1 hx1]
  refine st_comm _ _ _ _ _ _ _ ?_
  unfold pj
  by_cases x8 : x.f0 = 8
  · rw [if_pos x8]
    by_cases y8 : y.f0 = 8
    · rw [if_pos y8]
      refine .inr (fun c => ?_)
      have e1 : x.f1 = y.f1 := by have := hx.v1 x8; have := hy.v1 y8; omega
      unfold clashB tb tv at hcl
      rw [decide_eq_true x8, decide_eq_true y8, if_pos y8, if_pos x8, if_neg (by omega), if_neg (by omega), decide_eq_true e1] at hcl
      simp at hcl
    · rw [if_neg y8]; exact .inl (by decide)
  · rw [if_neg x8]
    by_cases y8 : y.f0 = 8
    · rw [if_pos y8]; exact .inl (by decide)
    · refine .inr (fun c => and_no h3 (sM_at hx hx1 (by have := hx.o8; omega)) ?_)
      rw [c]
      exact sM_at hy hy1 (by have := hy.o8; omega)
theorem inc_pe (L : Nat → List Int) (x : I3) : inc (pe L x) = pe (inc L) x := by
  by_cases h : x.f0 = 0
  · unfold pe; rw [if_pos h, if_pos h]
  · have e : ∀ M, pe M x = P.st M (pj x) x.f1 (pv M x) := fun M => if_neg h
    rw [e, e]
    unfold inc
    rw [st_at _ _ _ _ (pj_ne x)]
    exact st_comm _ _ _ _ _ _ _ (.inl (Ne.symm (pj_ne x)))
/-- Both ways round. -/
theorem two_steps {x y : I3} (hx : PR x) (hy : PR y) (h : apB x y = true) (ls : Nat → List Int) (tr : Int) : stepF (stepF ls tr x).1 (stepF ls tr x).2 y = stepF (stepF ls tr y).1 (stepF ls tr y).2 x := by
  rw [plain_step ls tr x hx.o0 hx.o8, plain_step ls tr y hy.o0 hy.o8]
  show stepF (pe (inc ls) x) tr y = stepF (pe (inc ls) y) tr x
  rw [plain_step _ tr y hy.o0 hy.o8, plain_step _ tr x hx.o0 hx.o8, inc_pe, inc_pe, pe_comm hx hy h]
/-! The two programs, step by step. -/
abbrev S2 := (Nat → List Int) × Int
theorem rd_inc (ls : Nat → List Int) (h0 : (ls 0).length = 1) (hA : 0 ≤ rd (ls 0) 0) (hB : rd (ls 0) 0 < 60) (L : Nat → List Int) (hL : L 0 = inc ls 0) : rd (L 0) 0 = rd (ls 0) 0 + 1 := by
  rw [hL]
  show rd ((ls 0).set 0 (wrap64 (rd (ls 0) 0 + 1))) 0 = _
  rw [rd_set0 _ _ h0]
  unfold wrap64; omega
theorem at_inc (ls : Nat → List Int) (h0 : (ls 0).length = 1) (hA : 0 ≤ rd (ls 0) 0) (hB : rd (ls 0) 0 < 60) (L : Nat → List Int) (hL : L 0 = inc ls 0) : atOf L = atOf ls + 1 := by
  have e := rd_inc ls h0 hA hB L hL
  unfold atOf
  rw [e]; omega
theorem at_plain (ls : Nat → List Int) (tr : Int) (q : I3) (hq : PR q) (h0 : (ls 0).length = 1) (hA : 0 ≤ rd (ls 0) 0) (hB : rd (ls 0) 0 < 60) : (stepF ls tr q).2 = tr ∧ atOf (stepF ls tr q).1 = atOf ls + 1 ∧ ((stepF ls tr q).1 0).length = 1 ∧ rd ((stepF ls tr q).1 0) 0 = rd (ls 0) 0 + 1 := by
  rw [plain_step _ _ _ hq.o0 hq.o8]
  exact ⟨rfl, at_inc ls h0 hA hB _ (pe_zero _ _), by show (pe (inc ls) q 0).length = 1; rw [pe_zero]; unfold inc; rw [len_st]; exact h0, rd_inc ls h0 hA hB _ (pe_zero _ _)⟩
theorem at_next (ls : Nat → List Int) (tr : Int) (x : I3) (h0 : (ls 0).length = 1) (hA : 0 ≤ rd (ls 0) 0) (hB : rd (ls 0) 0 < 60) : atOf (stepF ls tr x).1 = atOf ls + 1 ∨ (x.f0 = 10 ∧ atOf (stepF ls tr x).1 = x.f1.toNat) ∨ (x.f0 = 11 ∧ atOf (stepF ls tr x).1 = x.f2.toNat) := by
  have K := at_inc ls h0 hA hB
  have l0 : (inc ls 0).length = 1 := by unfold inc; rw [len_st]; exact h0
  by_cases p : 0 ≤ x.f0 ∧ x.f0 ≤ 8
  · rw [plain_step ls tr x p.1 p.2]
    exact .inl (K _ (pe_zero _ _))
  have ne : ∀ q : Int, 0 ≤ q → q ≤ 8 → ¬ x.f0 = q := fun q h1 h2 c => p (by omega)
  unfold stepF
  rw [if_neg (ne 1 (by decide) (by decide)), if_neg (ne 2 (by decide) (by decide)), if_neg (ne 3 (by decide) (by decide)), if_neg (ne 4 (by decide) (by decide)), if_neg (ne 5 (by decide) (by decide)), if_neg (ne 6 (by decide) (by decide)), if_neg (ne 7 (by decide) (by decide)), if_neg (ne 8 (by decide) (by decide))]
  by_cases c9 : x.f0 = 9
  · rw [if_pos c9]; exact .inl (K _ rfl)
  rw [if_neg c9]
  by_cases c10 : x.f0 = 10
  · rw [if_pos c10]
    refine .inr (.inl ⟨c10, ?_⟩)
    show (rd ((inc ls 0).set 0 x.f1) 0).toNat = _
    rw [rd_set0 _ _ l0]
  rw [if_neg c10]
  by_cases c11 : x.f0 = 11
  · rw [if_pos c11]
    split
    · refine .inr (.inr ⟨c11, ?_⟩)
      show (rd ((inc ls 0).set 0 x.f2) 0).toNat = _
      rw [rd_set0 _ _ l0]
    · exact .inl (K _ rfl)
  rw [if_neg c11]
  exact .inl (K _ (sync_zero _ _ _))
abbrev cn (c : List I3) (pc : List Int) (s : S2) (n : Nat) : Bool := canF c pc (itS c s n).1 (itS c s n).2
structure Sim (pc : List Int) (s : S2) (c d : List I3) : Prop where
  len : d.length = c.length
  go : ∀ n, (∀ k, k < n → cn c pc s k = true) → cn c pc s n = false → (∀ k, k < n → cn d pc s k = true) ∧ cn d pc s n = false ∧ itS d s n = itS c s n
theorem Sim.refl (pc : List Int) (s : S2) (c : List I3) : Sim pc s c c := ⟨rfl, fun _ h1 h2 => ⟨h1, h2, rfl⟩⟩
theorem Sim.trans {pc : List Int} {s : S2} {c d e : List I3} (h : Sim pc s c d) (k : Sim pc s d e) : Sim pc s c e :=
  ⟨k.len.trans h.len, fun n h1 h2 => by
    obtain ⟨a1, a2, a3⟩ := h.go n h1 h2
    obtain ⟨b1, b2, b3⟩ := k.go n a1 a2
    exact ⟨b1, b2, b3.trans a3⟩⟩
theorem can_at (c : List I3) (pc : List Int) (ls : Nat → List Int) (tr : Int) (i : Nat) (e : atOf ls = i) (hi : i < c.length) (ht : tr ≠ 1) (hp : (c.getD i z33).f0 ≤ 8) : canF c pc ls tr = true := by
  unfold canF
  rw [e, if_neg (by omega), if_neg ht, blocked_plain _ _ _ hp]; rfl
section
variable {nc B i : Nat} {pc : List Int} {c : List I3} {s : S2}
theorem sim_swap (h1 : 1 ≤ i) (hi : i < c.length) (hx : PR (c.getD (i - 1) z33)) (hy : PR (c.getD i z33)) (hap : apB (c.getD (i - 1) z33) (c.getD i z33) = true)
    (hld : ∀ j, j < c.length → ¬ Leads (c.getD j z33) i) (hG : GS nc c pc s.1 B) (h00 : atOf s.1 ≠ i) : Sim pc s c (swapL z33 c i) := by
  have hlen := swapL_length z33 c i
  have gd := swapL_getD z33 c i h1 hi
  obtain ⟨d, hd⟩ : ∃ d, d = swapL z33 c i := ⟨_, rfl⟩
  rw [← hd] at hlen gd ⊢
  have dx : d.getD i z33 = c.getD (i - 1) z33 := by rw [gd, if_pos rfl]
  have dy : d.getD (i - 1) z33 = c.getD i z33 := by rw [gd, if_neg (by omega), if_pos rfl]
  have key : ∀ n, (∀ k, k < n → cn c pc s k = true) → (∀ k, k < n → cn d pc s k = true) ∧ ((itS d s n = itS c s n ∧ atOf (itS c s n).1 ≠ i) ∨ ∃ u : S2, atOf u.1 = i - 1 ∧ u.2 ≠ 1 ∧ (u.1 0).length = 1 ∧ 0 ≤ rd (u.1 0) 0 ∧ itS c s n = stepF u.1 u.2 (c.getD (i - 1) z33) ∧ itS d s n = stepF u.1 u.2 (c.getD i z33)) := by
    intro n
    induction n with
    | zero => exact fun _ => ⟨fun k h => absurd h (Nat.not_lt_zero k), .inl ⟨rfl, h00⟩⟩
    | succ n ih =>
      intro hc
      obtain ⟨hd1, hr⟩ := ih (fun k hk => hc k (by omega))
      have hcn := hc n (by omega)
      have hg := gs_it hG n (fun k hk => hc k (by omega))
      have all : cn d pc s n = true → ∀ k, k < n + 1 → cn d pc s k = true := fun h k hk => by
        rcases Nat.lt_or_ge k n with h2 | h2
        · exact hd1 k h2
        · rw [show k = n by omega]; exact h
      rcases hr with ⟨e, hne⟩ | ⟨u, u1, u2, u3, u4, ec, ed⟩
      · have hcl : atOf (itS c s n).1 < c.length := by
          rcases Nat.lt_or_ge (atOf (itS c s n).1) c.length with h | h
          · exact h
          · exact absurd hcn (by show ¬ canF _ _ _ _ = true; unfold canF; rw [if_pos h]; decide)
        have htr : (itS c s n).2 ≠ 1 := fun h => absurd hcn (by show ¬ canF _ _ _ _ = true; unfold canF; rw [if_neg (by omega), if_pos h]; decide)
        by_cases hm : atOf (itS c s n).1 = i - 1
        · refine ⟨all ?_, .inr ⟨itS c s n, hm, htr, hg.si.h0, hg.si.at0, ?_, ?_⟩⟩
          · show canF d pc (itS d s n).1 (itS d s n).2 = true
            rw [e]
            exact can_at d pc _ _ (i - 1) hm (by omega) htr (by rw [dy]; exact hy.o8)
          · show stS c (itS c s n) = _
            unfold stS; rw [hm]
          · show stS d (itS d s n) = _
            unfold stS; rw [e, hm, dy]
        · have eI : d.getD (atOf (itS c s n).1) z33 = c.getD (atOf (itS c s n).1) z33 := by rw [gd, if_neg hne, if_neg hm]
          refine ⟨all ?_, .inl ⟨?_, ?_⟩⟩
          · show canF d pc (itS d s n).1 (itS d s n).2 = true
            rw [e, ← hcn]
            show canF _ _ _ _ = canF _ _ _ _
            unfold canF; rw [hlen, eI]
          · show stS d (itS d s n) = stS c (itS c s n)
            unfold stS; rw [e, eI]
          · have ho := hg.si.ok _ hcl
            have hld := hld _ hcl
            have hl60 := hg.si.len
            have hat := hg.si.at0
            show atOf (stepF _ _ _).1 ≠ i
            rcases at_next (itS c s n).1 (itS c s n).2 (c.getD (atOf (itS c s n).1) z33) hg.si.h0 hat (by unfold atOf at hcl; omega) with h | ⟨h10, h⟩ | ⟨h11, h⟩
            · rw [h]; omega
            · rw [h]; have := (ho.j1 h10).1; exact fun c => hld (.inl ⟨h10, by omega⟩)
            · rw [h]; have := (ho.j2 h11).1; exact fun c => hld (.inr ⟨h11, by omega⟩)
      · have hl60 := hG.si.len
        have hu : rd (u.1 0) 0 < 60 := by unfold atOf at u1; omega
        obtain ⟨mx1, mx2, mx3, mx4⟩ := at_plain u.1 u.2 _ hx u3 u4 hu
        obtain ⟨my1, my2, my3, my4⟩ := at_plain u.1 u.2 _ hy u3 u4 hu
        rw [u1, show i - 1 + 1 = i by omega] at mx2 my2
        refine ⟨all ?_, .inl ⟨?_, ?_⟩⟩
        · show canF d pc (itS d s n).1 (itS d s n).2 = true
          rw [ed]
          exact can_at d pc _ _ i my2 (by omega) (by rw [my1]; exact u2) (by rw [dx]; exact hx.o8)
        · show stS d (itS d s n) = stS c (itS c s n)
          unfold stS; rw [ec, ed, mx2, my2, dx]
          exact (two_steps hx hy hap u.1 u.2).symm
        · show atOf (stS c (itS c s n)).1 ≠ i
          unfold stS; rw [ec, mx2, (at_plain _ _ _ hy mx3 (by omega) (by rw [mx4]; unfold atOf at u1; omega)).2.1, mx2]
          omega
  refine ⟨hlen, fun n hc hn => ?_⟩
  obtain ⟨k1, k2⟩ := key n hc
  rcases k2 with ⟨e, hne⟩ | ⟨u, u1, u2, u3, u4, ec, ed⟩
  · refine ⟨k1, ?_, e⟩
    show canF d pc (itS d s n).1 (itS d s n).2 = false
    rw [e]
    by_cases hm : atOf (itS c s n).1 = i - 1
    · by_cases ht : (itS c s n).2 = 1
      · unfold canF; rw [if_neg (by omega), if_pos ht]
      · have := can_at c pc (itS c s n).1 (itS c s n).2 (i - 1) hm (by omega) ht hx.o8
        rw [show canF c pc (itS c s n).1 (itS c s n).2 = false from hn] at this
        cases this
    · rw [← hn]
      show canF _ _ _ _ = canF _ _ _ _
      unfold canF; rw [hlen, gd, if_neg hne, if_neg hm]
  · have hl60 := hG.si.len
    have hu : rd (u.1 0) 0 < 60 := by unfold atOf at u1; omega
    have : canF c pc (itS c s n).1 (itS c s n).2 = true := by
      rw [ec, plain_step _ _ _ hx.o0 hx.o8]
      exact can_at c pc _ _ i (by rw [at_inc u.1 u3 u4 hu _ (pe_zero _ _), u1]; omega) hi u2 hy.o8
    rw [show canF c pc (itS c s n).1 (itS c s n).2 = false from hn] at this
    cases this
end
end Go.Proofs.Yticdodbnjlnjlaa.Th
