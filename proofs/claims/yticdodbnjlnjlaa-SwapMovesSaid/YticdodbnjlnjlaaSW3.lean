import Derived.Test.YticdodbnjlnjlaaSW1
namespace Go.Proofs.Yticdodbnjlnjlaa.Th
set_option linter.unusedVariables false
open Go Go.RowKit Go.Proofs.Yticdodbnjlnjlaa.P Go.Proofs.Yticdodbnjlnjlaa.Opn Go.Proofs.YticdodbnjlnjlaaW.PrintWords Go.Proofs.YticdodbnjlnjlaaW.PrintLast Go.Proofs.YticdodbnjlnjlaaW.PrintMore
/-! What stays, whatever changes places: the rows, which instruction is whose, what is ahead of what. -/
theorem rd_get (l : List S33) (i : Nat) : rd_T33 l (i : Int) = l.getD i z33 := by unfold rd_T33; rw [Int.toNat_natCast]
theorem swB_parts {hs : List Bool} {now : List S33} {i : Nat} (h : swB hs now i = true) : hs.getD i false = false ∧ rankN (now.getD i z33).f0 < rankN (now.getD (i - 1) z33).f0 ∧ apB (now.getD (i - 1) z33) (now.getD i z33) = true := by
  unfold swB at h
  simp only [Bool.and_eq_true, Bool.not_eq_true', decide_eq_true_eq] at h
  exact h
theorem ap_plain {a b : S33} (h : apB a b = true) : a.f0 ≤ 8 ∧ b.f0 ≤ 8 := by
  unfold apB at h
  simp only [Bool.and_eq_true, decide_eq_true_eq] at h
  exact h.1.1
theorem leads_plain {x : S33} {t : Nat} (h : x.f0 ≤ 8) : ¬ Leads x t := fun hl => by
  unfold Leads at hl
  omega
theorem HP_swap (now : List S33) (i : Nat) (h1 : 1 ≤ i) (hi : i < now.length) (pa : (now.getD (i - 1) z33).f0 ≤ 8) (pb : (now.getD i z33).f0 ≤ 8) (j : Nat) : HP (swapL z33 now i) j → HP now j := by
  have hp : ∀ q, ¬ ((swapL z33 now i).getD q z33).f0 ≤ 8 → ¬ (now.getD q z33).f0 ≤ 8 := by
    intro q h
    rw [swapL_getD _ _ _ h1 hi] at h
    split at h
    · exact absurd pa h
    · split at h
      · exact absurd pb h
      · exact h
  unfold HP
  rw [rd_get, rd_get, rd_get, rd_get]
  rintro (h | h | h | ⟨q, hq, h⟩)
  · exact .inl h
  · exact .inr (.inl (hp _ h))
  · exact .inr (.inr (.inl (hp _ h)))
  · rw [swapL_length] at hq
    rw [rd_get, swapL_getD _ _ _ h1 hi] at h
    split at h
    · exact absurd h (leads_plain pa)
    · split at h
      · exact absurd h (leads_plain pb)
      · exact .inr (.inr (.inr ⟨q, hq, by rw [rd_get]; exact h⟩))
theorem swapL_twice {α : Type} (z : α) (l : List α) (i : Nat) (h1 : 1 ≤ i) (hi : i < l.length) : swapL z (swapL z l i) i = l := by
  obtain ⟨p, x, y, q, rfl, rfl⟩ := split_two l i h1 hi
  rw [swapL_split, swapL_split]
theorem hb_swap (now : List S33) (hO : OpsOK now) (i : Nat) (h1 : 1 ≤ i) (hi : i < now.length) (pa : (now.getD (i - 1) z33).f0 ≤ 8) (pb : (now.getD i z33).f0 ≤ 8) (j : Nat) (hj : j < now.length) : hb (swapL z33 now i) j = hb now j := by
  refine bool_eq ?_
  rw [hb_iff _ (hO.swapL h1 hi) j (by rw [swapL_length]; exact hj), hb_iff now hO j hj]
  refine ⟨HP_swap now i h1 hi pa pb j, fun h => ?_⟩
  have h2 := HP_swap (swapL z33 now i) i h1 (by rw [swapL_length]; exact hi) (by rw [swapL_getD _ _ _ h1 hi, if_neg (by omega), if_pos rfl]; exact pb) (by rw [swapL_getD _ _ _ h1 hi, if_pos rfl]; exact pa) j
  rw [swapL_twice _ _ _ h1 hi] at h2
  exact h2 h
structure RI (c now : List S33) (fr : List Int) : Prop where
  len : now.length = c.length
  lf : fr.length = c.length
  ops : OpsOK now
  hbs : ∀ j, j < c.length → hb now j = hb c j
  rng : ∀ i, i < c.length → 0 ≤ fr.getD i 0 ∧ fr.getD i 0 < (c.length : Int)
  inj : ∀ i j, i < c.length → j < c.length → fr.getD i 0 = fr.getD j 0 → i = j
  eq : ∀ i, i < c.length → now.getD i z33 = c.getD (fr.getD i 0).toNat z33
  row : ∀ i h, i < c.length → HeadS c i h → HeadS c (fr.getD i 0).toNat h
  ord : ∀ i j, j < i → i < c.length → fr.getD i 0 < fr.getD j 0 → apB (c.getD (fr.getD i 0).toNat z33) (c.getD (fr.getD j 0).toNat z33) = true
theorem RI.begin_ (c : List S33) (hO : OpsOK c) : RI c c (ownL c.length) := by
  have e : ∀ i, i < c.length → (ownL c.length).getD i 0 = (i : Int) := by
    intro i hi
    unfold ownL
    rw [List.getD_eq_getElem?_getD, List.getElem?_map, List.getElem?_range hi]; rfl
  refine ⟨rfl, ownL_length _, hO, fun _ _ => rfl, fun i hi => by rw [e i hi]; omega, fun i j hi hj h => by rw [e i hi, e j hj] at h; omega, fun i hi => by rw [e i hi, Int.toNat_natCast], fun i h hi hh => by rw [e i hi, Int.toNat_natCast]; exact hh, fun i j hji hi h => by rw [e i hi, e j (by omega)] at h; omega⟩
theorem RI.step {c now : List S33} {fr : List Int} (h : RI c now fr) {i : Nat} (h1 : 1 ≤ i) (hi : i < c.length) (hs : swB (headsK c c.length) now i = true) : RI c (swapL z33 now i) (swapL 0 fr i) := by
  obtain ⟨s1, _, s3⟩ := swB_parts hs
  have hin : i < now.length := by rw [h.len]; exact hi
  have hif : i < fr.length := by rw [h.lf]; exact hi
  obtain ⟨pa, pb⟩ := ap_plain s3
  have gn := fun j => swapL_getD z33 now i h1 hin j
  have gf := fun j => swapL_getD (0 : Int) fr i h1 hif j
  have hrow : ∀ q, HeadS c i q ↔ HeadS c (i - 1) q := by
    intro q
    have s1 : hb c i = false := s1
    constructor
    · rintro ⟨a1, a2, a3⟩
      have : q ≠ i := fun e => by rw [e, s1] at a2; cases a2
      exact ⟨by omega, a2, fun j b1 b2 => a3 j b1 (by omega)⟩
    · rintro ⟨a1, a2, a3⟩
      refine ⟨by omega, a2, fun j b1 b2 => ?_⟩
      by_cases e : j = i
      · rw [e]; exact s1
      · exact a3 j b1 (by omega)
  refine ⟨by rw [swapL_length]; exact h.len, by rw [swapL_length]; exact h.lf, h.ops.swapL h1 hin, fun j hj => ?_, fun j hj => ?_, fun p q hp hq e => ?_, fun j hj => ?_, fun j q hj hq => ?_, fun p q hqp hp e => ?_⟩
  · rw [hb_swap now h.ops i h1 hin pa pb j (by rw [h.len]; exact hj)]; exact h.hbs j hj
  · rw [gf]
    split
    · exact h.rng _ (by omega)
    · split
      · exact h.rng _ hi
      · exact h.rng _ hj
  · rw [gf, gf] at e
    have key := h.inj
    split at e <;> split at e <;> (try split at e) <;> (try split at e)
    all_goals first
      | (have := key _ _ (by omega) (by omega) e; omega)
      | omega
  · rw [gn, gf]
    split
    · exact h.eq _ (by omega)
    · split
      · exact h.eq _ hi
      · exact h.eq _ hj
  · rw [gf]
    split
    · rename_i e; subst e
      exact h.row _ q (by omega) ((hrow q).1 hq)
    · split
      · rename_i e1 e; subst e
        exact h.row _ q hi ((hrow q).2 hq)
      · exact h.row _ q hj hq
  · rw [gf, gf] at e ⊢
    by_cases p1 : p = i
    · subst p1
      rw [if_pos rfl] at e ⊢
      by_cases q1 : q = p - 1
      · subst q1
        rw [if_neg (by omega), if_pos rfl] at e ⊢
        rw [← h.eq (p - 1) (by omega), ← h.eq p hi]
        exact s3
      · rw [if_neg (by omega), if_neg q1] at e ⊢
        exact h.ord (p - 1) q (by omega) (by omega) e
    · rw [if_neg p1] at e ⊢
      by_cases p2 : p = i - 1
      · subst p2
        rw [if_pos rfl] at e ⊢
        rw [if_neg (by omega), if_neg (by omega)] at e ⊢
        exact h.ord i q (by omega) hi e
      · rw [if_neg p2] at e ⊢
        by_cases q1 : q = i
        · subst q1
          rw [if_pos rfl] at e ⊢
          exact h.ord p (q - 1) (by omega) hp e
        · rw [if_neg q1] at e ⊢
          by_cases q2 : q = i - 1
          · subst q2
            rw [if_pos rfl] at e ⊢
            exact h.ord p i (by omega) hp e
          · rw [if_neg q2] at e ⊢
            exact h.ord p q hqp hp e
theorem run_RI {c now : List S33} {fr : List Int} {res : List S33 × List Int} (h : Run (headsK c c.length) now fr res) (hi : RI c now fr) : RI c res.1 res.2 ∧ ∀ i, 1 ≤ i → i < c.length → swB (headsK c c.length) res.1 i = false := by
  induction h with
  | done hd => exact ⟨hi, fun i h1 h2 => hd i h1 (by rw [hi.len]; exact h2)⟩
  | step i h1 hin hb hf h ih => exact ih (hi.step h1 (by have := hi.len; omega) hb)
/-- Where nothing changes places, Code leaves the code as it is. -/
theorem code_same (c : List S33) (hO : OpsOK c) (hl : c.length ≤ 60) (h : ∀ i, 1 ≤ i → i < c.length → swB (headsK c c.length) c i = false) : Ev (fun k => swap_Code.f k c) (c, ownL c.length) := by
  refine ev_neg (by omega) (Ev.bind (some_ev (heads_f c hO (by omega))) (ev_pos (headsK_length c _) ?_))
  exact run_code (Run.done h) hO 1 (Nat.le_refl _) (fun j h1 h2 => by omega)
theorem swB_same {c now : List S33} {fr : List Int} (h : RI c now fr) {i : Nat} (hi : i < c.length) : swB (headsK now now.length) now i = swB (headsK c c.length) now i := by
  have e : (headsK now now.length).getD i false = (headsK c c.length).getD i false := h.hbs i hi
  unfold swB
  rw [e]
end Go.Proofs.Yticdodbnjlnjlaa.Th
