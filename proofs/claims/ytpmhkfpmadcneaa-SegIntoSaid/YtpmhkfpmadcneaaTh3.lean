import Derived.Test.YtpmhkfpmadcneaaTh2
import Derived.KernelRfl
namespace Go.Proofs.Ytpmhkfpmadcneaa.Th
open Go Go.RowKit Go.Proofs.Ytpmhkfpmadcneaa.P Go.Proofs.YtpmhkfpmadcneaaW.PrintWords Go.Proofs.YtpmhkfpmadcneaaW.PrintLast Go.Proofs.YtpmhkfpmadcneaaW.PrintMore

theorem known_ev : Ev (fun k => interlocklaw11_known.f k) true := Ev.of interlocklaw11_known.mono (k := 12) (by kernel_rfl)
theorem leads_ev (c : List S25) (hl : c.length ≤ 4611686018427387904) (i : Nat) : ∀ (d j : Nat), j + d = c.length → ∃ b : Bool, Ev (fun k => interlockref11_head.l0 k c (i : Int) (j : Int)) b ∧ (b = true ↔ ∃ m, j ≤ m ∧ m < c.length ∧ Leads (rd_T25 c m) i) := by
  intro d
  induction d with
  | zero =>
    intro j hj
    exact ⟨false, Ev.step (fun k => by simp only [interlockref11_head.l0]; rw [if_neg (by omega)]) (Ev.now _), ⟨(fun h => by cases h), fun ⟨m, h1, h2, _⟩ => by omega⟩⟩
  | succ d ih =>
    intro j hj
    have e1 : wrap64 ((j : Int) + 1) = ((j + 1 : Nat) : Int) := by rw [w64 (by omega) (by omega)]; rfl
    by_cases hle : Leads (rd_T25 c j) i
    · refine ⟨true, Ev.step (fun k => ?_) (Ev.now _), ⟨fun _ => ⟨j, Nat.le_refl _, by omega, hle⟩, fun _ => rfl⟩⟩
      simp only [interlockref11_head.l0]
      rw [if_pos (by omega), if_pos (by omega)]
      rcases hle with ⟨h1, h2⟩ | ⟨h1, h2⟩
      · rw [if_pos h1, if_pos h2]
      · rw [if_neg (by omega), if_pos h1, if_pos h2]
    · obtain ⟨b, hb1, hb2⟩ := ih (j + 1) (by omega)
      refine ⟨b, Ev.step (f := fun k => interlockref11_head.l0 k c (i : Int) ((j + 1 : Nat) : Int)) (fun k => ?_) hb1, ?_⟩
      · simp only [interlockref11_head.l0]
        rw [if_pos (by omega), if_pos (by omega), e1]
        by_cases h10 : (rd_T25 c j).f0 = 10
        · rw [if_pos h10, if_neg (fun h => hle (.inl ⟨h10, h⟩)), if_neg (by omega)]
        · rw [if_neg h10]
          by_cases h11 : (rd_T25 c j).f0 = 11
          · rw [if_pos h11, if_neg (fun h => hle (.inr ⟨h11, h⟩))]
          · rw [if_neg h11]
      · rw [hb2]
        constructor
        · rintro ⟨m, h1, h2, h3⟩
          exact ⟨m, by omega, h2, h3⟩
        · rintro ⟨m, h1, h2, h3⟩
          by_cases e : m = j
          · subst e; exact absurd h3 hle
          · exact ⟨m, by omega, h2, h3⟩
theorem bool_eq {a b : Bool} (h : a = true ↔ b = true) : a = b := by
  cases a <;> cases b <;> simp_all
theorem rhead_ev (c : List S25) (hc : OpsOK c) (hl : c.length ≤ 140737488355328) (i : Nat) (hi : i < c.length) : Ev (fun k => interlockref11_head.f k c (i : Int)) (hb c i) := by
  have hiff := hb_iff c hc i hi
  have jt : Ev (fun k => interlockref11_head.j0 k c (i : Int) true) true := Ev.step (fun k => by simp only [interlockref11_head.j0]; rw [if_pos (by decide)]) (Ev.now _)
  by_cases h0 : i = 0
  · rw [hiff.2 (.inl h0)]
    refine Ev.congr (fun k => ?_) jt
    unfold interlockref11_head.f
    rw [if_pos (by omega)]
  · by_cases h1 : (rd_T25 c i).f0 ≤ 8
    · by_cases h2 : (rd_T25 c (i - 1 : Nat)).f0 ≤ 8
      · obtain ⟨b, hb1, hb2⟩ := leads_ev c (by omega) i c.length 0 (by omega)
        have e : hb c i = b := bool_eq (by
          rw [hiff, hb2]
          constructor
          · rintro (h | h | h | ⟨j, h3, h4⟩)
            · exact absurd h h0
            · exact absurd h1 h
            · exact absurd h2 h
            · exact ⟨j, Nat.zero_le _, h3, h4⟩
          · rintro ⟨j, _, h3, h4⟩
            exact .inr (.inr (.inr ⟨j, h3, h4⟩)))
        rw [e]
        have jf : Ev (fun k => interlockref11_head.j0 k c (i : Int) false) b := Ev.step (f := fun k => interlockref11_head.l0 k c (i : Int) 0) (fun k => by simp only [interlockref11_head.j0]; rw [if_neg (by decide)]) hb1
        refine Ev.congr (fun k => ?_) jf
        have e1 : wrap64 ((i : Int) - 1) = ((i - 1 : Nat) : Int) := by rw [w64 (by omega) (by omega)]; omega
        unfold interlockref11_head.f
        rw [if_neg (by omega), if_pos (by omega), if_pos (by omega)]
        unfold interlockref02_Plain.f
        rw [Option.bind_some, decide_eq_true h1, if_pos rfl, e1, if_pos (by omega), if_pos (by omega), Option.bind_some, decide_eq_true h2]
        rfl
      · rw [hiff.2 (.inr (.inr (.inl h2)))]
        refine Ev.congr (fun k => ?_) jt
        have e1 : wrap64 ((i : Int) - 1) = ((i - 1 : Nat) : Int) := by rw [w64 (by omega) (by omega)]; omega
        unfold interlockref11_head.f
        rw [if_neg (by omega), if_pos (by omega), if_pos (by omega)]
        unfold interlockref02_Plain.f
        rw [Option.bind_some, decide_eq_true h1, if_pos rfl, e1, if_pos (by omega), if_pos (by omega), Option.bind_some, decide_eq_false h2]
        rfl
    · rw [hiff.2 (.inr (.inl h1))]
      refine Ev.congr (fun k => ?_) jt
      unfold interlockref11_head.f
      rw [if_neg (by omega), if_pos (by omega), if_pos (by omega)]
      unfold interlockref02_Plain.f
      rw [Option.bind_some, decide_eq_false h1, if_neg (by decide)]
theorem rheads_ev (c : List S25) (hc : OpsOK c) (hl : c.length ≤ 140737488355327) : Ev (fun k => interlockref11_Heads.f k c) (headsK c c.length) := by
  have hlen := headsK_length c c.length
  have go : ∀ (d i : Nat), i + d = c.length → Ev (fun k => interlockref11_Heads.l0 k c ((headsK c c.length).take i) (i : Int)) (headsK c c.length) := by
    intro d
    induction d with
    | zero =>
      intro i hi
      refine Ev.step (fun k => ?_) (Ev.now _)
      simp only [interlockref11_Heads.l0]
      rw [if_neg (by omega), List.take_of_length_le (by omega)]
    | succ d ih =>
      intro i hi
      have e1 : wrap64 ((i : Int) + 1) = ((i + 1 : Nat) : Int) := by rw [w64 (by omega) (by omega)]; rfl
      refine Ev.step (f := fun k => (interlockref11_head.f k c (i : Int)).bind fun t => interlockref11_Heads.l0 k c ((headsK c c.length).take i ++ [t]) ((i + 1 : Nat) : Int)) (fun k => ?_) (Ev.bind (rhead_ev c hc (by omega) i (by omega)) ?_)
      · simp only [interlockref11_Heads.l0]
        rw [if_pos (by omega), e1]
        congr 1
        funext t
        rw [if_pos (by rw [List.length_take]; omega)]
      · have e2 : (headsK c c.length).take i ++ [hb c i] = (headsK c c.length).take (i + 1) := by
          rw [List.take_add_one, List.getElem?_eq_getElem (by omega)]
          unfold hb
          rw [List.getD_eq_getElem?_getD, List.getElem?_eq_getElem (by omega)]
          rfl
        rw [e2]
        exact ih (i + 1) (by omega)
  exact go c.length 0 (by omega)
theorem rHead_out (c : List S25) (i : Int) (hi : i < 0 ∨ (c.length : Int) ≤ i) : Ev (fun k => interlockref11_Head.f k c i) i := by
  have jt : Ev (fun k => interlockref11_Head.j0 k c i true) i := Ev.step (fun k => by simp only [interlockref11_Head.j0]; rw [if_pos (by decide)]) (Ev.now _)
  refine Ev.congr (fun k => ?_) jt
  unfold interlockref11_Head.f
  by_cases h : i < 0
  · rw [if_pos h]
  · rw [if_neg h, decide_eq_true (by omega)]
theorem rTail_out (c : List S25) (i : Int) (hi : i < 0 ∨ (c.length : Int) ≤ i) : Ev (fun k => interlockref11_Tail.f k c i) i := by
  have jt : Ev (fun k => interlockref11_Tail.j0 k c i true) i := Ev.step (fun k => by simp only [interlockref11_Tail.j0]; rw [if_pos (by decide)]) (Ev.now _)
  refine Ev.congr (fun k => ?_) jt
  unfold interlockref11_Tail.f
  by_cases h : i < 0
  · rw [if_pos h]
  · rw [if_neg h, decide_eq_true (by omega)]
theorem rHead_in (c : List S25) (hc : OpsOK c) (hl : c.length ≤ 140737488355328) (i : Nat) (hi : i < c.length) : ∃ h : Nat, Ev (fun k => interlockref11_Head.f k c (i : Int)) (h : Int) ∧ HeadS c i h := by
  have go : ∀ m : Nat, m < c.length → ∃ h : Nat, Ev (fun k => interlockref11_Head.l0 k c (m : Int)) (h : Int) ∧ HeadS c m h := by
    intro m
    induction m with
    | zero =>
      intro hm
      have h0 : hb c 0 = true := (hb_iff c hc 0 hm).2 (.inl rfl)
      refine ⟨0, Ev.step (f := fun k => (interlockref11_head.f k c ((0 : Nat) : Int)).bind fun t => if t = true then some ((0 : Nat) : Int) else interlockref11_Head.l0 k c (wrap64 (((0 : Nat) : Int) - 1))) (fun k => by simp only [interlockref11_Head.l0]) (Ev.bind (rhead_ev c hc hl 0 hm) ?_), Nat.le_refl _, h0, fun j h1 h2 => by omega⟩
      rw [h0]
      exact Ev.now _
    | succ m ih =>
      intro hm
      cases hbm : hb c (m + 1) with
      | true =>
        refine ⟨m + 1, Ev.step (f := fun k => (interlockref11_head.f k c ((m + 1 : Nat) : Int)).bind fun t => if t = true then some ((m + 1 : Nat) : Int) else interlockref11_Head.l0 k c (wrap64 (((m + 1 : Nat) : Int) - 1))) (fun k => by simp only [interlockref11_Head.l0]) (Ev.bind (rhead_ev c hc hl (m + 1) hm) ?_), Nat.le_refl _, hbm, fun j h1 h2 => by omega⟩
        rw [hbm]
        exact Ev.now _
      | false =>
        obtain ⟨h, h1, h2, h3, h4⟩ := ih (by omega)
        have e1 : wrap64 (((m + 1 : Nat) : Int) - 1) = (m : Int) := by rw [w64 (by omega) (by omega)]; omega
        refine ⟨h, Ev.step (f := fun k => (interlockref11_head.f k c ((m + 1 : Nat) : Int)).bind fun t => if t = true then some ((m + 1 : Nat) : Int) else interlockref11_Head.l0 k c (wrap64 (((m + 1 : Nat) : Int) - 1))) (fun k => by simp only [interlockref11_Head.l0]) (Ev.bind (rhead_ev c hc hl (m + 1) hm) ?_), by omega, h3, fun j h5 h6 => ?_⟩
        · rw [hbm, e1]
          exact h1
        · by_cases e : j = m + 1
          · rw [e]; exact hbm
          · exact h4 j h5 (by omega)
  obtain ⟨h, h1, h2⟩ := go i hi
  refine ⟨h, ?_, h2⟩
  have jf : Ev (fun k => interlockref11_Head.j0 k c (i : Int) false) (h : Int) := Ev.step (f := fun k => interlockref11_Head.l0 k c (i : Int)) (fun k => by simp only [interlockref11_Head.j0]; rw [if_neg (by decide)]) h1
  refine Ev.congr (fun k => ?_) jf
  unfold interlockref11_Head.f
  rw [if_neg (by omega), decide_eq_false (by omega)]
theorem rTail_in (c : List S25) (hc : OpsOK c) (hl : c.length ≤ 140737488355328) (i : Nat) (hi : i < c.length) : ∃ t : Nat, Ev (fun k => interlockref11_Tail.f k c (i : Int)) (t : Int) ∧ TailS c i t := by
  have go : ∀ (d m : Nat), m + d = c.length → i < m → (∀ j, i < j → j < m → hb c j = false) → ∃ t : Nat, Ev (fun k => interlockref11_Tail.l0 k c (m : Int)) (t : Int) ∧ TailS c i t := by
    intro d
    induction d with
    | zero =>
      intro m hm him hf
      exact ⟨m, Ev.step (fun k => by simp only [interlockref11_Tail.l0]; rw [if_neg (by omega)]) (Ev.now _), him, by omega, fun h => by omega, hf⟩
    | succ d ih =>
      intro m hm him hf
      have e1 : wrap64 ((m : Int) + 1) = ((m + 1 : Nat) : Int) := by rw [w64 (by omega) (by omega)]; rfl
      have st : ∀ t : Int, Ev (fun k => if hb c m = true then some (m : Int) else interlockref11_Tail.l0 k c ((m + 1 : Nat) : Int)) t → Ev (fun k => interlockref11_Tail.l0 k c (m : Int)) t := fun t h =>
        Ev.step (f := fun k => (interlockref11_head.f k c (m : Int)).bind fun t => if t = true then some (m : Int) else interlockref11_Tail.l0 k c ((m + 1 : Nat) : Int)) (fun k => by simp only [interlockref11_Tail.l0]; rw [if_pos (by omega), e1]) (Ev.bind (rhead_ev c hc hl m (by omega)) h)
      cases hbm : hb c m with
      | true => exact ⟨m, st _ (by rw [hbm]; exact Ev.now _), him, by omega, fun _ => hbm, hf⟩
      | false =>
        obtain ⟨t, h1, h2⟩ := ih (m + 1) (by omega) (by omega) (fun j h3 h4 => by
          by_cases e : j = m
          · rw [e]; exact hbm
          · exact hf j h3 (by omega))
        exact ⟨t, st _ (by rw [hbm]; exact h1), h2⟩
  obtain ⟨t, h1, h2⟩ := go (c.length - (i + 1)) (i + 1) (by omega) (by omega) (fun j h3 h4 => by omega)
  refine ⟨t, ?_, h2⟩
  have e1 : wrap64 ((i : Int) + 1) = ((i + 1 : Nat) : Int) := by rw [w64 (by omega) (by omega)]; rfl
  have jf : Ev (fun k => interlockref11_Tail.j0 k c (i : Int) false) (t : Int) := Ev.step (f := fun k => interlockref11_Tail.l0 k c ((i + 1 : Nat) : Int)) (fun k => by simp only [interlockref11_Tail.j0]; rw [if_neg (by decide), e1]) h1
  refine Ev.congr (fun k => ?_) jf
  unfold interlockref11_Tail.f
  rw [if_neg (by omega), decide_eq_false (by omega)]
end Go.Proofs.Ytpmhkfpmadcneaa.Th
