import Derived.Test.YticdodbnjlnjlaaSW1
import Derived.Test.YticdodbnjlnjlaaMK
import Derived.Test.YticdodbnjlnjlaaPx14
namespace Go.Proofs.Yticdodbnjlnjlaa.Th
set_option linter.unusedVariables false
open Go Go.RowKit Go.Proofs.Yticdodbnjlnjlaa.P Go.Proofs.Yticdodbnjlnjlaa.Opn Go.Proofs.YticdodbnjlnjlaaW.PrintWords Go.Proofs.YticdodbnjlnjlaaW.PrintLast Go.Proofs.YticdodbnjlnjlaaW.PrintMore
/-! The document's answer: the same run. -/
theorem rrank_f (x : Int) : interlockref19_rank.f x = some (rankN x) := by
  unfold interlockref19_rank.f rankN
  split
  · rfl
  · split
    · rfl
    · split <;> rfl
/-- Two places side by side are of one row just if no row begins at the second. -/
theorem same_row (c : List S33) (hc : OpsOK c) (hl : c.length ≤ 140737488355328) (i : Nat) (hi : i + 1 < c.length) : ∃ a b : Nat, Ev (fun k => interlockref11_Head.f k c (i : Int)) (a : Int) ∧ Ev (fun k => interlockref11_Head.f k c ((i + 1 : Nat) : Int)) (b : Int) ∧ (a = b ↔ hb c (i + 1) = false) := by
  obtain ⟨a, ha, h1⟩ := rHead_in c hc hl i (by omega)
  obtain ⟨b, hb', h2⟩ := rHead_in c hc hl (i + 1) hi
  refine ⟨a, b, ha, hb', ?_⟩
  constructor
  · intro e
    subst e
    exact h2.2.2 (i + 1) (by have := h1.1; omega) (Nat.le_refl _)
  · intro e
    refine HeadS.one (i := i + 1) ⟨by have := h1.1; omega, h1.2.1, fun j h3 h4 => ?_⟩ h2
    by_cases ej : j = i + 1
    · rw [ej]; exact e
    · exact h1.2.2 j h3 (by omega)
section
variable (c : List S33) (hc : OpsOK c) (hl : c.length ≤ 60) (now : List S33) (hn : now.length = c.length) (hO : OpsOK now)
theorem rd_at (l : List S33) (i : Nat) : rd_T33 l (i : Int) = l.getD i z33 := by unfold rd_T33; rw [Int.toNat_natCast]
include hc hl hn hO in
theorem first_step (i : Nat) (hi : i + 1 < now.length) (r : Int) (hr : r = if swB (headsK c c.length) now (i + 1) = true then (i : Int) else r) (hrest : swB (headsK c c.length) now (i + 1) = false → Ev (fun k => interlockref19_first.l0 k c now ((i + 1 : Nat) : Int)) r) : Ev (fun k => interlockref19_first.l0 k c now (i : Int)) r := by
  obtain ⟨a, b, ha, hb', hab⟩ := same_row c hc (by omega) i (by omega)
  have e1 : wrap64 ((i : Int) + 1) = ((i + 1 : Nat) : Int) := up i (by omega)
  refine Ev.step (fun k => by simp only [interlockref19_first.l0]; rw [e1]) ?_
  refine ev_pos (by omega) (Ev.bind ha (Ev.bind hb' ?_))
  unfold swB at hr hrest
  rw [Nat.add_sub_cancel] at hr hrest
  have hgd : (headsK c c.length).getD (i + 1) false = hb c (i + 1) := rfl
  rw [hgd] at hr hrest
  by_cases h1 : hb c (i + 1) = false
  · rw [h1] at hr hrest
    refine ev_pos (by rw [hab.2 h1]) (ev_pos (by omega) (Ev.bind (some_ev (rrank_f _)) (ev_pos (by omega) (ev_pos (by omega) (Ev.bind (some_ev (rrank_f _)) ?_)))))
    rw [rd_at, rd_at]
    by_cases h2 : rankN (now.getD (i + 1) z33).f0 < rankN (now.getD i z33).f0
    · rw [decide_eq_true h2] at hr hrest
      refine ev_pos h2 (Ev.bind (rapart_ev _ _ (hO.getD (by omega)) (hO.getD hi)) ?_)
      cases h3 : apB (now.getD i z33) (now.getD (i + 1) z33) with
      | true =>
        rw [h3] at hr
        have hr : r = (i : Int) := hr
        rw [hr]
        exact ev_pos rfl (Ev.now _)
      | false =>
        rw [h3] at hrest
        exact ev_neg (by decide) (hrest rfl)
    · rw [decide_eq_false h2] at hrest
      exact ev_neg h2 (hrest rfl)
  · have h1 : hb c (i + 1) = true := by simpa using h1
    rw [h1] at hrest
    refine ev_neg (fun h => ?_) (hrest rfl)
    have := hab.1 (by omega)
    rw [this] at h1; cases h1
include hc hl hn hO in
theorem first_none (h : ∀ i, 1 ≤ i → i < now.length → swB (headsK c c.length) now i = false) : ∀ (d i : Nat), i + d = now.length → Ev (fun k => interlockref19_first.l0 k c now (i : Int)) (-1)
  | 0, i, e => by
    have e1 : wrap64 ((i : Int) + 1) = ((i + 1 : Nat) : Int) := up i (by omega)
    exact Ev.step (fun k => by simp only [interlockref19_first.l0]; rw [e1]) (ev_neg (by omega) (Ev.now _))
  | d + 1, i, e => by
    by_cases hi : i + 1 < now.length
    · refine first_step c hc hl now hn hO i hi (-1) (by rw [h (i + 1) (by omega) hi]; rfl) (fun _ => first_none h d (i + 1) (by omega))
    · have e1 : wrap64 ((i : Int) + 1) = ((i + 1 : Nat) : Int) := up i (by omega)
      exact Ev.step (fun k => by simp only [interlockref19_first.l0]; rw [e1]) (ev_neg (by omega) (Ev.now _))
include hc hl hn hO in
theorem first_at (m : Nat) (hm : m + 1 < now.length) (hb' : swB (headsK c c.length) now (m + 1) = true) (h : ∀ j, 1 ≤ j → j < m + 1 → swB (headsK c c.length) now j = false) : ∀ (d i : Nat), i + d = m → Ev (fun k => interlockref19_first.l0 k c now (i : Int)) (m : Int)
  | 0, i, e => by
    have e : i = m := by omega
    subst e
    exact first_step c hc hl now hn hO i hm (i : Int) (by rw [hb']; rfl) (fun hf => by rw [hf] at hb'; cases hb')
  | d + 1, i, e => first_step c hc hl now hn hO i (by omega) (m : Int) (by rw [h (i + 1) (by omega) (by omega)]; rfl) (fun _ => first_at m hm hb' h d (i + 1) (by omega))
end
theorem rrun_code (c : List S33) (hc : OpsOK c) (hl : c.length ≤ 60) {now : List S33} {fr : List Int} {res : List S33 × List Int} (h : Run (headsK c c.length) now fr res) (hO : OpsOK now) (hn : now.length = c.length) (hf : fr.length = c.length) :
    Ev (fun k => (interlockref19_first.f k c now).bind fun t => interlockref19_Code.l0 k c now fr t) res := by
  induction h with
  | @done now fr hd =>
    refine Ev.bind (first_none c hc hl now hn hO hd now.length 0 (by omega)) ?_
    exact Ev.step (fun k => by simp only [interlockref19_Code.l0]; exact rfl) (ev_neg (by decide) (Ev.now _))
  | @step now fr res m hm1 hm hb' hfst hr ih =>
    obtain ⟨m, rfl⟩ : ∃ q, m = q + 1 := ⟨m - 1, by omega⟩
    refine Ev.bind (first_at c hc hl now hn hO m hm hb' hfst m 0 (by omega)) ?_
    have e1 : wrap64 ((m : Int) + 1) = ((m + 1 : Nat) : Int) := up m (by omega)
    have IH := ih (hO.swapL (by omega) hm) (by rw [swapL_length]; exact hn) (by rw [swapL_length]; exact hf)
    refine Ev.step (fun k => by simp only [interlockref19_Code.l0]; rw [e1]) ?_
    refine ev_pos (by omega) (ev_pos (by omega) (ev_pos (by omega) (ev_pos (by omega) (ev_pos (by omega) ?_))))
    refine Ev.bind (Ev.now _) (ev_pos (by omega) (ev_pos (by omega) ?_))
    rw [Int.toNat_natCast, Int.toNat_natCast, rd_at, rd_at, show rd fr ((m + 1 : Nat) : Int) = fr.getD (m + 1) 0 by unfold rd; rw [Int.toNat_natCast], show rd fr (m : Int) = fr.getD m 0 by unfold rd; rw [Int.toNat_natCast]]
    exact IH
theorem own_l0 (n : Nat) (hn : n ≤ 60) : ∀ (d i : Nat), i + d = n → Ev (fun k => interlockref16_Own.l0 k (n : Int) (ownL i) (i : Int)) (ownL n)
  | 0, i, e => by
    have e : i = n := by omega
    subst e
    exact Ev.step (fun k => by simp only [interlockref16_Own.l0]; exact rfl) (ev_neg (by omega) (Ev.now _))
  | d + 1, i, e => by
    have e1 : wrap64 ((i : Int) + 1) = ((i + 1 : Nat) : Int) := up i (by omega)
    refine Ev.step (fun k => by simp only [interlockref16_Own.l0]; rw [e1, ← ownL_succ]) ?_
    refine ev_pos (by omega) (ev_pos (by rw [ownL_length]; omega) (own_l0 n hn d (i + 1) (by omega)))
theorem own_ev (n : Nat) (hn : n ≤ 60) : Ev (fun k => interlockref16_Own.f k (n : Int)) (ownL n) := own_l0 n hn n 0 (by omega)
theorem rcode_ev (c : List S33) (hO : OpsOK c) (hl : c.length ≤ 60) {res : List S33 × List Int} (hr : Run (headsK c c.length) c (ownL c.length) res) : Ev (fun k => interlockref19_Code.f k c) res := by
  refine ev_neg (by omega) (ev_pos (by simp; omega) (Ev.bind (Ev.now _) (Ev.bind (own_ev c.length hl) ?_)))
  exact rrun_code c hO hl hr hO rfl (ownL_length _)
/-! The same rows. -/
theorem same_l0 (l : List Int) (hl : l.length ≤ 4611686018427387904) : ∀ (d i : Nat), i + d = l.length → Ev (fun k => interlockref01_Same.l0 k l l (i : Int)) true
  | 0, i, e => Ev.step (fun k => by simp only [interlockref01_Same.l0]; exact rfl) (ev_neg (by omega) (Ev.now _))
  | d + 1, i, e => by
    have e1 : wrap64 ((i : Int) + 1) = ((i + 1 : Nat) : Int) := up i (by omega)
    refine Ev.step (fun k => by simp only [interlockref01_Same.l0]; rw [e1]) ?_
    exact ev_pos (by omega) (ev_pos (by omega) (ev_pos (by omega) (ev_pos (by first | trivial | rfl) (same_l0 l hl d (i + 1) (by omega)))))
theorem same_ev (l : List Int) (hl : l.length ≤ 4611686018427387904) : Ev (fun k => interlockref01_Same.f k l l) true := ev_pos rfl (same_l0 l hl l.length 0 (by omega))
theorem sameCode_l0 (l : List S33) (hl : l.length ≤ 4611686018427387904) : ∀ (d i : Nat), i + d = l.length → Ev (fun k => interlockref02_SameCode.l0 k l l (i : Int)) true
  | 0, i, e => Ev.step (fun k => by simp only [interlockref02_SameCode.l0]; exact rfl) (ev_neg (by omega) (Ev.now _))
  | d + 1, i, e => by
    have e1 : wrap64 ((i : Int) + 1) = ((i + 1 : Nat) : Int) := up i (by omega)
    refine Ev.step (fun k => by simp only [interlockref02_SameCode.l0]; rw [e1]) ?_
    have := sameCode_l0 l hl d (i + 1) (by omega)
    exact ev_pos (by omega) (ev_pos (by omega) (ev_pos (by omega) (ev_neg (by simp) this)))
theorem sameCode_ev (l : List S33) (hl : l.length ≤ 4611686018427387904) : Ev (fun k => interlockref02_SameCode.f k l l) true := ev_pos rfl (sameCode_l0 l hl l.length 0 (by omega))
theorem run_lens {hs : List Bool} {now : List S33} {fr : List Int} {res : List S33 × List Int} (h : Run hs now fr res) : res.1.length = now.length ∧ res.2.length = fr.length := by
  induction h with
  | done => exact ⟨rfl, rfl⟩
  | step i h1 hi hb hf h ih => rw [swapL_length, swapL_length] at ih; exact ih
end Go.Proofs.Yticdodbnjlnjlaa.Th
