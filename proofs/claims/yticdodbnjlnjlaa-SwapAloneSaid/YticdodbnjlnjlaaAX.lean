import Derived.Test.YticdodbnjlnjlaaAW
import Derived.Test.YticdodbnjlnjlaaIMa
namespace Go.Proofs.Yticdodbnjlnjlaa.Th
set_option linter.unusedVariables false
open Go Go.RowKit Go.Proofs.Yticdodbnjlnjlaa.P Go.Proofs.YticdodbnjlnjlaaW.PrintWords Go.Proofs.YticdodbnjlnjlaaW.PrintLast Go.Proofs.YticdodbnjlnjlaaW.PrintMore
/-! What Make writes, and what Code makes of it, are such as SwapAlone's walk asks. -/
theorem PR_of {n : Nat} {x : S33} (h : Good n x) (h8 : x.f0 ≤ 8) : PR x := by
  obtain ⟨⟨h0, h1, h12⟩, ha, hb, hc⟩ := h
  obtain ⟨o, a, b, c⟩ := x
  dsimp only at h0 h8
  have wid : ∀ {q : Int}, 0 ≤ q ∧ q < 4 → 0 ≤ q ∧ q < 64 := fun h => ⟨h.1, by omega⟩
  refine ⟨h0, h8, ?_, ?_, ?_, ?_, ?_⟩ <;> dsimp only <;> rcases nine h0 h8 with e | e | e | e | e | e | e | e | e <;> subst e <;> intros <;>
    first
    | (exfalso; omega)
    | exact wid (Good.reg ha (Or.inl rfl))
    | exact wid (Good.reg hb (Or.inr rfl))
    | exact wid (Good.reg hc (Or.inr rfl))
    | exact (Good.var ha rfl).1
    | exact (Good.var hb rfl).1
theorem lsA_len (j : Nat) : (lsA j).length ≤ 8 ∧ (lsA j ≠ [] → D9 j = true ∨ j = 2 ∨ (12 ≤ j ∧ j < 12 + 1)) := by
  by_cases h : j < 13
  · have : ∀ j, j < 13 → (lsA j).length ≤ 8 ∧ (lsA j ≠ [] → D9 j = true ∨ j = 2 ∨ (12 ≤ j ∧ j < 12 + 1)) := by decide
    exact this j h
  · have e : lsA j = [] := by
      unfold lsA ls0 P.st P.up zs0
      simp only [if_neg (show ¬ j = 0 by omega), if_neg (show ¬ j = 1 by omega), if_neg (show ¬ j = 2 by omega), if_neg (show ¬ j = 4 by omega), if_neg (show ¬ j = 5 by omega), if_neg (show ¬ j = 6 by omega), if_neg (show ¬ j = 8 by omega), if_neg (show ¬ j = 9 by omega), if_neg (show ¬ j = 10 by omega)]
    rw [e]
    exact ⟨by simp, fun c => absurd rfl c⟩
theorem gs_of {c : List S33} (h : AllG c.length c) (hl : c.length ≤ 60) : GS 1 c [1] lsA 8 :=
  ⟨⟨rfl, rfl, rfl, rfl, rfl, by decide, fun i hi => okI_of (h _ (mem_getD hi)), hl⟩, fun j => (lsA_len j).2, fun j => (lsA_len j).1⟩
theorem w3_tab : ∀ n : Nat, n < 28 → w3 (n : Int) = ((shpAt (n : Int)).w 0, (shpAt (n : Int)).w 1, (shpAt (n : Int)).w 2) := by decide
theorem okN_of {vC vT : Value} {len : Nat} {u x : Int} (hl : len ≤ 60) (h : okW len u x) : okN (PP vC vT) 1 len u x := by
  have ew : wrap64 ((len : Int) + 1) = (len : Int) + 1 := by unfold wrap64; omega
  unfold okN manyF
  rw [ew]
  show 0 ≤ u ∧ u ≤ 11 ∧ (u = 0 → x = 0) ∧ (2 ≤ u → u ≠ 6 ∧ 0 ≤ x ∧ x < if u = 2 ∨ u = 3 then 4 else if u = 4 then 2 else if u = 5 then (len : Int) + 1 else if u = 6 then 1 else if u = 7 then 1 else if u = 8 then 1 else if u = 9 then ((1 : Nat) : Int) else if u = 10 then 1 else 1)
  unfold okW at h
  refine ⟨by omega, by omega, by omega, fun h2 => ⟨by omega, by omega, ?_⟩⟩
  repeat' split
  all_goals omega
theorem sok_of {c : List S33} (h : AllG c.length c) (hl : c.length ≤ 60) (vC vT : Value) : SOK (PP vC vT) c [1] := by
  refine ⟨⟨show (0 : Int) ≤ 2 by decide, show (2 : Int) ≤ 8 by decide, show (0 : Int) ≤ 1 by decide, show (1 : Int) ≤ 4 by decide, show (0 : Int) ≤ 1 by decide, show (1 : Int) ≤ 4 by decide, show (0 : Int) ≤ 1 by decide, show (1 : Int) ≤ 4 by decide, show (0 : Int) ≤ 1 by decide, show (1 : Int) ≤ 4 by decide, by decide⟩, fun k hk => ?_, hl, fun k hk => ?_⟩
  · have : k = 0 := by simpa using hk
    subst this
    decide
  · have g := h _ (mem_getD hk)
    generalize c.getD k z33 = x at g
    obtain ⟨n, hn⟩ : ∃ n : Nat, x.f0 = (n : Int) := ⟨x.f0.toNat, by have := g.o.1; omega⟩
    have e := w3_tab n (by have := g.o.2.1; omega)
    rw [← hn] at e
    refine ⟨g.o.1, by have := g.o.2.1; omega, g.o.2.2, ?_, ?_, ?_⟩ <;> rw [e] <;> first | exact okN_of hl g.a | exact okN_of hl g.b | exact okN_of hl g.c
theorem run_sim {hs : List Bool} {now : List S33} {fr : List Int} {res : List S33 × List Int} (h : Run hs now fr res) : AllG now.length now → now.length ≤ 60 → (∀ j, j < now.length → hs.getD j false = false → ¬ HP now j) →
    Sim [1] (lsA, 0) now res.1 ∧ AllG res.1.length res.1 ∧ res.1.length = now.length := by
  induction h with
  | done _ => exact fun hA _ _ => ⟨Sim.refl _ _ _, hA, rfl⟩
  | @step now fr res i h1 hi hb hf hr ih =>
    intro hA hl hH
    obtain ⟨b1, _, b3⟩ := swB_parts hb
    obtain ⟨pa, pb⟩ := ap_plain b3
    have hn := hH i hi b1
    have e1 := swapL_length z33 now i
    have s1 : Sim [1] (lsA, 0) now (swapL z33 now i) := sim_swap h1 hi (PR_of (hA _ (mem_getD (by omega))) pa) (PR_of (hA _ (mem_getD hi)) pb) b3
      (fun j hj hle => hn (.inr (.inr (.inr ⟨j, hj, by rw [rd_get]; exact hle⟩)))) (gs_of hA hl) (show (0 : Nat) ≠ i by omega)
    obtain ⟨s2, a2, l2⟩ := ih (fun x hx => by rw [e1]; exact hA x ((swapL_mem _ _ _ h1 hi x).1 hx)) (by omega) (fun j hj hh hp => hH j (by omega) hh (HP_swap now i h1 hi pa pb j hp))
    exact ⟨s1.trans s2, a2, l2.trans e1⟩
theorem alo_of {c : List S33} {res : List S33 × List Int} (h : AllG c.length c) (hl : c.length ≤ 60) (hr : Run (headsK c c.length) c (ownL c.length) res) : ALO c res.1 := by
  have hO : OpsOK c := fun x hx => by have := (h x hx).o; exact ⟨this.1, by omega⟩
  obtain ⟨sm, a2, l2⟩ := run_sim hr h hl (fun j hj hh hp => by have := (hb_iff c hO j hj).2 hp; rw [hb, hh] at this; cases this)
  refine ⟨fun _ _ => sok_of h hl _ _, gs_of h hl, fun _ _ => sok_of a2 (by omega) _ _, gs_of a2 (by omega), fun m n hm hn hne => ?_⟩
  have hf : canF c [1] (atA c m).1 (atA c m).2 = false := by
    cases hc : canF c [1] (atA c m).1 (atA c m).2 with
    | false => rfl
    | true =>
      refine absurd ?_ hne
      have ht : (atA c m).2 ≠ 1 := fun e => by
        unfold canF at hc
        rw [if_pos e] at hc
        split at hc <;> cases hc
      unfold stA statusF
      rw [if_neg ht, if_pos hc]
  obtain ⟨k1, k2, k3⟩ := sm.go m hm.can hf
  have e : m = n := by
    rcases Nat.lt_trichotomy m n with h | h | h
    · have := hn.can m h
      rw [show canF res.1 [1] (atA res.1 m).1 (atA res.1 m).2 = false from k2] at this
      cases this
    · exact h
    · rcases hn.stop with h2 | h2
      · have := hm.le; omega
      · have := k1 n h
        rw [show cn res.1 [1] (lsA, 0) n = false from h2] at this
        cases this
  subst e
  refine ⟨rfl, ?_, congrArg (fun s : S2 => s.1 11) k3⟩
  unfold stA statusF
  rw [show canF res.1 [1] (atA res.1 m).1 (atA res.1 m).2 = false from k2, hf, l2, show atA res.1 m = atA c m from k3]
end Go.Proofs.Yticdodbnjlnjlaa.Th
