import Derived.Test.YtbnkeddnibjncaaDoorBI
namespace Go.Proofs.YtbnkeddnibjncaaDoor.Th
set_option linter.unusedVariables false
open Go Go.RowKit Go.Proofs.YtbnkeddnibjncaaDoor.P Go.Proofs.YtbnkeddnibjncaaDoor.Opn Go.Proofs.YtbnkeddnibjncaaDoorW.PrintWords Go.Proofs.YtbnkeddnibjncaaDoorW.PrintLast Go.Proofs.YtbnkeddnibjncaaDoorW.PrintMore
/-! Where what comes is from: cfg.Preds. -/
def addP (i : Int) (ps : List (List Int)) (x : Int) : List (List Int) := if x < 0 then ps else if (ps.length : Int) ≤ x then ps else if (ps.getD x.toNat []).getLast? = some i then ps else ps.set x.toNat (ps.getD x.toNat [] ++ [i])
def rowP (i : Int) (ps : List (List Int)) (l : List Int) : List (List Int) := l.foldl (addP i) ps
def predsP (ss : List (List Int)) : Nat → Nat → List (List Int) → List (List Int)
  | 0, _, ps => ps
  | d + 1, i, ps => predsP ss d (i + 1) (rowP (i : Int) ps (ss.getD i []))
theorem nodup_int : ∀ (n : Nat) {q : List Int}, q.Nodup → (∀ i ∈ q, 0 ≤ i ∧ i < (n : Int)) → q.length ≤ n
  | 0, q, _, hl => by
    cases q with
    | nil => exact Nat.le_refl _
    | cons a l => have := hl a List.mem_cons_self; omega
  | n + 1, q, h, hl => by
    by_cases hn : (n : Int) ∈ q
    · have ih := nodup_int n (h.erase (n : Int)) (fun i hi => by
        have h1 := (h.mem_erase_iff).1 hi
        have h2 := hl i h1.2
        have := h1.1
        omega)
      rw [List.length_erase_of_mem hn] at ih
      omega
    · have ih := nodup_int n h (fun i hi => by
        have h2 := hl i hi
        have : i ≠ (n : Int) := fun e => hn (e ▸ hi)
        omega)
      omega
structure PI (n i : Nat) (ps : List (List Int)) : Prop where
  len : ps.length = n
  nd : ∀ j, (ps.getD j []).Nodup
  le : ∀ j, ∀ x ∈ ps.getD j [], 0 ≤ x ∧ x ≤ (i : Int)
  last : ∀ j, (i : Int) ∈ ps.getD j [] → (ps.getD j []).getLast? = some (i : Int)
theorem getD_set (ps : List (List Int)) (k j : Nat) (v : List Int) : (ps.set k v).getD j [] = if k = j ∧ j < ps.length then v else ps.getD j [] := by
  simp only [List.getD_eq_getElem?_getD, List.getElem?_set]
  by_cases h : k = j
  · subst h
    by_cases h2 : k < ps.length
    · simp [h2]
    · simp [h2]
  · simp [h]
theorem PI.add {n i : Nat} {ps : List (List Int)} (h : PI n i ps) (x : Int) : PI n i (addP (i : Int) ps x) ∧ ∀ j v, v ∈ (addP (i : Int) ps x).getD j [] ↔ (v ∈ ps.getD j [] ∨ (v = (i : Int) ∧ x = (j : Int) ∧ j < n)) := by
  unfold addP
  by_cases h1 : x < 0
  · rw [if_pos h1]
    exact ⟨h, fun j v => ⟨.inl, fun c => c.elim id (fun c => by omega)⟩⟩
  rw [if_neg h1]
  by_cases h2 : (ps.length : Int) ≤ x
  · rw [if_pos h2]
    have := h.len
    exact ⟨h, fun j v => ⟨.inl, fun c => c.elim id (fun c => by omega)⟩⟩
  rw [if_neg h2]
  have hl := h.len
  by_cases h3 : (ps.getD x.toNat []).getLast? = some (i : Int)
  · rw [if_pos h3]
    refine ⟨h, fun j v => ⟨.inl, fun c => c.elim id (fun c => ?_)⟩⟩
    obtain ⟨rfl, rfl, _⟩ := c
    rw [Int.toNat_natCast] at h3
    exact List.mem_of_getLast? h3
  · rw [if_neg h3]
    have hni : (i : Int) ∉ ps.getD x.toNat [] := fun hm => h3 (h.last _ hm)
    refine ⟨⟨by rw [List.length_set]; exact hl, fun j => ?_, fun j y hy => ?_, fun j hm => ?_⟩, fun j v => ?_⟩
    · rw [getD_set]; split
      · rw [List.nodup_append]
        exact ⟨h.nd _, by simp, fun a ha b hb e => by rw [List.mem_singleton.1 hb] at e; rw [e] at ha; exact hni ha⟩
      · exact h.nd j
    · rw [getD_set] at hy; split at hy
      · rcases List.mem_append.1 hy with hy | hy
        · exact h.le _ _ hy
        · rw [List.mem_singleton.1 hy]; omega
      · exact h.le j y hy
    · rw [getD_set] at hm ⊢; split
      · exact List.getLast?_concat
      · rename_i hc; rw [if_neg hc] at hm; exact h.last j hm
    · rw [getD_set]
      by_cases hc : x.toNat = j ∧ j < ps.length
      · rw [if_pos hc, List.mem_append, List.mem_singleton, hc.1]
        exact ⟨fun c => c.elim .inl (fun c => .inr ⟨c, by omega, by omega⟩), fun c => c.elim .inl (fun c => .inr c.1)⟩
      · rw [if_neg hc]
        exact ⟨.inl, fun c => c.elim id (fun c => absurd (⟨by omega, by omega⟩ : x.toNat = j ∧ j < ps.length) hc)⟩
theorem PI.row {n i : Nat} : ∀ (l : List Int) {ps : List (List Int)}, PI n i ps → PI n i (rowP (i : Int) ps l) ∧ ∀ j v, v ∈ (rowP (i : Int) ps l).getD j [] ↔ (v ∈ ps.getD j [] ∨ (v = (i : Int) ∧ (j : Int) ∈ l ∧ j < n))
  | [], ps, h => ⟨h, fun j v => ⟨.inl, fun c => c.elim id (fun c => by cases c.2.1)⟩⟩
  | x :: l, ps, h => by
    obtain ⟨h1, h2⟩ := h.add x
    obtain ⟨h3, h4⟩ := PI.row l h1
    refine ⟨h3, fun j v => ?_⟩
    rw [show rowP (i : Int) ps (x :: l) = rowP (i : Int) (addP (i : Int) ps x) l from rfl, h4 j v, h2 j v, List.mem_cons]
    constructor
    · rintro ((c | ⟨c1, c2, c3⟩) | ⟨c1, c2, c3⟩)
      · exact .inl c
      · exact .inr ⟨c1, .inl c2.symm, c3⟩
      · exact .inr ⟨c1, .inr c2, c3⟩
    · rintro (c | ⟨c1, c2 | c2, c3⟩)
      · exact .inl (.inl c)
      · exact .inl (.inr ⟨c1, c2.symm, c3⟩)
      · exact .inr ⟨c1, c2, c3⟩
theorem PI.up {n i : Nat} {ps : List (List Int)} (h : PI n i ps) : PI n (i + 1) ps :=
  ⟨h.len, h.nd, fun j x hx => by have := h.le j x hx; omega, fun j hm => by have := h.le j _ hm; omega⟩
theorem PI.len_le {n i : Nat} {ps : List (List Int)} (h : PI n i ps) (j : Nat) : (ps.getD j []).length ≤ i + 1 := nodup_int (i + 1) (h.nd j) (fun x hx => by have := h.le j x hx; omega)
theorem PI.preds (ss : List (List Int)) {n : Nat} : ∀ (d i : Nat) {ps : List (List Int)}, PI n i ps → ∃ i', i' ≤ i + d ∧ PI n i' (predsP ss d i ps) ∧ ∀ j v, v ∈ (predsP ss d i ps).getD j [] ↔ (v ∈ ps.getD j [] ∨ (∃ m, i ≤ m ∧ m < i + d ∧ v = (m : Int) ∧ (j : Int) ∈ ss.getD m [] ∧ j < n))
  | 0, i, ps, h => ⟨i, Nat.le_refl _, h, fun j v => ⟨.inl, fun c => c.elim id (fun ⟨m, h1, h2, _⟩ => by omega)⟩⟩
  | d + 1, i, ps, h => by
    obtain ⟨h1, h2⟩ := h.row (ss.getD i [])
    obtain ⟨i', hi', h3, h4⟩ := PI.preds ss d (i + 1) h1.up
    refine ⟨i', by omega, h3, fun j v => ?_⟩
    rw [show predsP ss (d + 1) i ps = predsP ss d (i + 1) (rowP (i : Int) ps (ss.getD i [])) from rfl, h4 j v, h2 j v]
    constructor
    · rintro ((c | ⟨c1, c2, c3⟩) | ⟨m, c1, c2, c3⟩)
      · exact .inl c
      · exact .inr ⟨i, Nat.le_refl _, by omega, c1, c2, c3⟩
      · exact .inr ⟨m, by omega, by omega, c3⟩
    · rintro (c | ⟨m, c1, c2, c3, c4, c5⟩)
      · exact .inl (.inl c)
      · by_cases e : m = i
        · subst e; exact .inl (.inr ⟨c3, c4, c5⟩)
        · exact .inr ⟨m, by omega, by omega, c3, c4, c5⟩
/-! The walk's function comes to it. -/
theorem preds_l1 (ss : List (List Int)) (hn : ss.length ≤ 64) (i : Nat) (hi : i < ss.length) (r : List (List Int)) (l : List Int) (hl : l.length ≤ 1000000)
    (hout : ∀ ps, PI ss.length i ps → ps = rowP (i : Int) ps [] → True)
    (N : List (List Int) → Nat → Option (List (List Int)))
    (hN : ∀ ps k, N ps k = cfg_Preds.l0 k ps ss (ss.length : Int) (wrap64 ((i : Int) + 1))) :
    ∀ (d j : Nat) (ps : List (List Int)), j + d = l.length → PI ss.length i ps → (∃ q, q = rowP (i : Int) ps (l.drop j) ∧ Ev (fun k => cfg_Preds.l0 k q ss (ss.length : Int) (wrap64 ((i : Int) + 1))) r) →
      Ev (fun k => cfg_Preds.l1 k ps (i : Int) ss (ss.length : Int) (i : Int) l (l.length : Int) (j : Int)) r
  | 0, j, ps, hj, hp, hq => by
    obtain ⟨q, rfl, hq⟩ := hq
    rw [List.drop_eq_nil_of_le (by omega)] at hq
    exact Ev.step (fun k => by simp only [cfg_Preds.l1]; rw [if_neg (by omega)]; rfl) hq
  | d + 1, j, ps, hj, hp, hq => by
    obtain ⟨q, rfl, hq⟩ := hq
    have hlt : j < l.length := by omega
    have hd : l.drop j = l.getD j 0 :: l.drop (j + 1) := by rw [List.drop_eq_getElem_cons hlt, List.getD_eq_getElem?_getD, List.getElem?_eq_getElem hlt]; rfl
    rw [hd] at hq
    have hq : Ev (fun k => cfg_Preds.l0 k (rowP (i : Int) (addP (i : Int) ps (l.getD j 0)) (l.drop (j + 1))) ss (ss.length : Int) (wrap64 ((i : Int) + 1))) r := hq
    have hpa := (hp.add (l.getD j 0)).1
    have ih := preds_l1 ss hn i hi r l hl hout N hN d (j + 1) (addP (i : Int) ps (l.getD j 0)) (by omega) hpa ⟨_, rfl, hq⟩
    rw [← up j (by omega)] at ih
    have hlen := hp.len
    refine Ev.step (f := fun k => _) (fun k => by simp only [cfg_Preds.l1]; rw [if_pos (show (j : Int) < (l.length : Int) by omega), if_pos (show 0 ≤ (j : Int) by omega), if_pos (show (j : Int) < (l.length : Int) by omega), rd_nat]) ?_
    generalize l.getD j 0 = x at *
    clear hd hq
    by_cases h1 : x < 0
    · refine ev_pos h1 (Ev.step (fun k => by simp only [cfg_Preds.j2, if_true]; rfl) ?_)
      unfold addP at ih; rw [if_pos h1] at ih; exact ih
    refine ev_neg h1 ?_
    by_cases h2 : (ps.length : Int) ≤ x
    · refine Ev.step (fun k => by simp only [cfg_Preds.j2]; rw [if_pos (decide_eq_true h2)]) ?_
      unfold addP at ih; rw [if_neg h1, if_pos h2] at ih; exact ih
    have hx : rd_L1 ps x = ps.getD x.toNat [] := rfl
    refine Ev.step (fun k => by simp only [cfg_Preds.j2]; rw [if_neg (by simpa using h2), if_pos (by omega), if_pos (by omega), hx]) ?_
    have hrl := hp.len_le x.toNat
    unfold addP at ih
    rw [if_neg h1, if_neg h2] at ih
    generalize ps.getD x.toNat [] = row at *
    by_cases h3 : (row.length : Int) = 0
    · have h3' : row = [] := List.eq_nil_of_length_eq_zero (by omega)
      refine ev_pos h3 (ev_pos (by omega) ?_)
      rw [if_neg (by rw [h3']; simp)] at ih
      exact ih
    refine ev_neg h3 ?_
    have hw : wrap64 ((row.length : Int) - 1) = ((row.length - 1 : Nat) : Int) := by rw [w64 (by omega) (by omega)]; omega
    rw [hw]
    refine ev_pos (by omega) (ev_pos (by omega) ?_)
    have hlast : row.getLast? = some (rd row ((row.length - 1 : Nat) : Int)) := by
      rw [rd_nat, List.getLast?_eq_getElem?, List.getD_eq_getElem?_getD, List.getElem?_eq_getElem (by omega)]; rfl
    by_cases h4 : rd row ((row.length - 1 : Nat) : Int) = (i : Int)
    · refine ev_pos h4 ?_
      rw [if_pos (by rw [hlast, h4])] at ih; exact ih
    · refine ev_neg h4 (ev_pos (by omega) ?_)
      rw [if_neg (by rw [hlast]; intro c; exact h4 (Option.some.inj c))] at ih; exact ih
theorem preds_l0 (ss : List (List Int)) (hn : ss.length ≤ 64) (hl : ∀ j, j < ss.length → (ss.getD j []).length ≤ 1000000) : ∀ (d i : Nat) (ps : List (List Int)), i + d = ss.length → PI ss.length i ps →
      Ev (fun k => cfg_Preds.l0 k ps ss (ss.length : Int) (i : Int)) (predsP ss d i ps)
  | 0, i, ps, hi, hp => Ev.step (fun k => by simp only [cfg_Preds.l0]; rw [if_neg (by omega)]; rfl) (Ev.now _)
  | d + 1, i, ps, hi, hp => by
    have hlt : i < ss.length := by omega
    have ih := preds_l0 ss hn hl d (i + 1) (rowP (i : Int) ps (ss.getD i [])) (by omega) (hp.row _).1.up
    rw [← up i (by omega)] at ih
    refine Ev.step (f := fun k => _) (fun k => by simp only [cfg_Preds.l0]; rw [if_pos (show (i : Int) < (ss.length : Int) by omega), if_pos (show 0 ≤ (i : Int) by omega), if_pos (show (i : Int) < (ss.length : Int) by omega)]) ?_
    rw [show rd_L1 ss (i : Int) = ss.getD i [] by unfold rd_L1; rw [Int.toNat_natCast]]
    exact preds_l1 ss hn i hlt _ (ss.getD i []) (hl i hlt) (fun _ _ _ => trivial) (fun ps k => cfg_Preds.l0 k ps ss (ss.length : Int) (wrap64 ((i : Int) + 1))) (fun _ _ => rfl) (ss.getD i []).length 0 ps (by omega) hp ⟨_, rfl, ih⟩
def preds (ss : List (List Int)) : List (List Int) := predsP ss ss.length 0 (List.replicate ss.length [])
theorem PI.zero (n : Nat) : PI n 0 (List.replicate n []) := by
  have h : ∀ j, (List.replicate n ([] : List Int)).getD j [] = [] := fun j => by
    rw [List.getD_eq_getElem?_getD, List.getElem?_replicate]; split <;> rfl
  refine ⟨List.length_replicate, fun j => ?_, fun j x hx => ?_, fun j hx => ?_⟩
  · rw [h j]; simp
  · rw [h j] at hx; cases hx
  · rw [h j] at hx; cases hx
theorem preds_ev (ss : List (List Int)) (hn : ss.length ≤ 64) (hl : ∀ j, j < ss.length → (ss.getD j []).length ≤ 1000000) : Ev (fun k => cfg_Preds.f k ss) (preds ss) := by
  unfold cfg_Preds.f
  refine ev_pos (by omega) (ev_pos (by rw [Int.toNat_natCast]; omega) ?_)
  rw [Int.toNat_natCast]
  exact preds_l0 ss hn hl ss.length 0 _ (by omega) (PI.zero _)
theorem preds_len (ss : List (List Int)) : (preds ss).length = ss.length := by
  obtain ⟨i', _, h, _⟩ := PI.preds ss ss.length 0 (PI.zero ss.length)
  exact h.len
theorem preds_row (ss : List (List Int)) (j : Nat) : ((preds ss).getD j []).length ≤ ss.length + 1 := by
  obtain ⟨i', hi, h, _⟩ := PI.preds ss ss.length 0 (PI.zero ss.length)
  have := h.len_le j
  show ((predsP ss ss.length 0 (List.replicate ss.length [])).getD j []).length ≤ _
  omega
theorem preds_mem (ss : List (List Int)) (j : Nat) (v : Int) : v ∈ (preds ss).getD j [] ↔ ∃ m, m < ss.length ∧ v = (m : Int) ∧ (j : Int) ∈ ss.getD m [] ∧ j < ss.length := by
  obtain ⟨i', _, _, h⟩ := PI.preds ss ss.length 0 (PI.zero ss.length)
  have h := h j v
  rw [show predsP ss ss.length 0 (List.replicate ss.length []) = preds ss from rfl] at h
  rw [h]
  have h0 : (List.replicate ss.length ([] : List Int)).getD j [] = [] := by
    rw [List.getD_eq_getElem?_getD, List.getElem?_replicate]; split <;> rfl
  rw [h0]
  exact ⟨fun c => c.elim (fun c => by cases c) (fun ⟨m, _, h2, h3⟩ => ⟨m, by omega, h3⟩), fun ⟨m, h2, h3⟩ => .inr ⟨m, Nat.zero_le _, by omega, h3⟩⟩
end Go.Proofs.YtbnkeddnibjncaaDoor.Th
