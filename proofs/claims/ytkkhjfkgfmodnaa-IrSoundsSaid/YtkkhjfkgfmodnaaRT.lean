import Derived.Test.YtkkhjfkgfmodnaaRS
namespace Go.Proofs.Ytkkhjfkgfmodnaa.Pure
open Go Go.RowKit Go.Proofs.Ytkkhjfkgfmodnaa.P Go.Proofs.Ytkkhjfkgfmodnaa.Opn Go.Proofs.YtkkhjfkgfmodnaaW.PrintWords Go.Proofs.YtkkhjfkgfmodnaaW.PrintLast Go.Proofs.YtkkhjfkgfmodnaaW.PrintMore
section
variable (V A L G O : Int) (ch : List Int) (th : List (List S30))
theorem rd_code (i : Nat) : rd_L4 th (i : Int) = codeAt th i := by
  show th.getD (i : Int).toNat [] = _
  rw [Int.toNat_natCast]; rfl
theorem s4_ev (hth : th.length ≤ 140737488355328) (hby : bytesOK th = true) (i : Nat) (hi : i < th.length) (hc : (codeAt th i).length ≤ 140737488355328) (R : Int)
    (hR : Ev (fun k => interlockref02_Sound.l3 k ((i + 1 : Nat) : Int) V A L ch G O th) R) : ∀ d j : Nat, j + d = (codeAt th i).length →
    Ev (fun k => interlockref02_Sound.l4 k (i : Int) (j : Int) V A L ch G O th) (if codeRes (lims V A L ch.length G O th.length ((codeAt th i).length : Int)) ((codeAt th i).drop j) = 0 then R else codeRes (lims V A L ch.length G O th.length ((codeAt th i).length : Int)) ((codeAt th i).drop j))
  | 0, j, h => by
    obtain rfl : j = (codeAt th i).length := by omega
    rw [List.drop_eq_nil_of_le (Nat.le_refl _)]
    refine Ev.step (fun k => ?_) hR
    simp only [interlockref02_Sound.l4]
    rw [if_pos (by omega), if_pos (by omega), rd_code, if_neg (by omega), up i (by omega)]
  | d + 1, j, h => by
    have hj : j < (codeAt th i).length := by omega
    have hb := bytes_at hby i j hi hj
    have ih := s4_ev hth hby i hi hc R hR d (j + 1) (by omega)
    rw [ins_drop hj]
    show Ev _ (if (if insRes _ _ = 0 then codeRes _ _ else insRes _ _) = 0 then R else (if insRes _ _ = 0 then codeRes _ _ else insRes _ _))
    obtain ⟨op, hop⟩ : ∃ op : Nat, (rd_T30 (codeAt th i) (j : Int)).f0 = (op : Int) := ⟨(rd_T30 (codeAt th i) (j : Int)).f0.toNat, by omega⟩
    have hi1 := rins_ev V A L G O ch th (codeAt th i).length op (rd_T30 (codeAt th i) (j : Int)).f1 (rd_T30 (codeAt th i) (j : Int)).f2 (rd_T30 (codeAt th i) (j : Int)).f3 hc (by omega)
    rw [← hop] at hi1
    change Ev _ (insRes _ (rd_T30 (codeAt th i) (j : Int))) at hi1
    refine Ev.step (fun k => ?_) (Ev.bind hi1 (f := fun k t => if t = 0 then interlockref02_Sound.l4 k (i : Int) ((j + 1 : Nat) : Int) V A L ch G O th else some t) ?_)
    · simp only [interlockref02_Sound.l4]
      rw [if_pos (by omega), if_pos (by omega), rd_code, if_pos (by omega), if_pos (by omega), up j (by omega)]
    · generalize insRes _ (rd_T30 (codeAt th i) (j : Int)) = q
      by_cases hq : q = 0
      · rw [if_pos hq]
        exact ev_pos hq ih
      · rw [if_neg hq, if_neg hq]
        exact ev_neg hq (Ev.now q)
theorem s3_ev (hth : th.length ≤ 140737488355328) (hby : bytesOK th = true) (hc : ∀ i, i < th.length → (codeAt th i).length ≤ 140737488355328) : ∀ d i : Nat, i + d = th.length →
    Ev (fun k => interlockref02_Sound.l3 k (i : Int) V A L ch G O th) (allRes (lims V A L ch.length G O th.length) (th.drop i))
  | 0, i, h => by
    obtain rfl : i = th.length := by omega
    rw [List.drop_eq_nil_of_le (Nat.le_refl _)]
    refine Ev.step (fun k => ?_) (Ev.now 0)
    simp only [interlockref02_Sound.l3]
    rw [if_neg (by omega)]
  | d + 1, i, h => by
    have hi : i < th.length := by omega
    rw [code_drop hi]
    have ih := s4_ev V A L G O ch th hth hby i hi (hc i hi) _ (s3_ev hth hby hc d (i + 1) (by omega)) (codeAt th i).length 0 (by omega)
    refine Ev.step (fun k => ?_) ih
    simp only [interlockref02_Sound.l3]
    rw [if_pos (by omega)]; rfl
theorem s2_ev (hch : ch.length ≤ 9223372036854775807) (R : Int) (hR : Ev (fun k => interlockref02_Sound.l3 k 0 V A L ch G O th) R) : ∀ d j : Nat, j + d = ch.length →
    Ev (fun k => interlockref02_Sound.l2 k (j : Int) V A L ch G O th) (if (ch.drop j).any (fun n => outB n 1 3) = true then 21 else R)
  | 0, j, h => by
    obtain rfl : j = ch.length := by omega
    rw [List.drop_eq_nil_of_le (Nat.le_refl _)]
    refine Ev.step (fun k => ?_) hR
    simp only [interlockref02_Sound.l2]
    rw [if_neg (by omega)]
  | d + 1, j, h => by
    have hj : j < ch.length := by omega
    have ih := s2_ev hch R hR d (j + 1) (by omega)
    have ed : ch.drop j = rd ch (j : Int) :: ch.drop (j + 1) := by
      rw [List.drop_eq_getElem_cons hj, show rd ch (j : Int) = ch.getD j 0 by simp [rd], List.getD_eq_getElem?_getD, List.getElem?_eq_getElem hj]; rfl
    rw [ed, List.any_cons]
    refine Ev.step (f := fun k => if rd ch (j : Int) < 1 then some 21 else if rd ch (j : Int) > 3 then some 21 else interlockref02_Sound.l2 k ((j + 1 : Nat) : Int) V A L ch G O th) (fun k => ?_) ?_
    · simp only [interlockref02_Sound.l2]
      rw [if_pos (by omega), if_pos (by omega), up j (by omega)]
    · generalize rd ch (j : Int) = x
      by_cases h1 : x < 1
      · have e : outB x 1 3 = true := by unfold outB; rw [decide_eq_true h1]; rfl
        rw [e, if_pos (by rfl)]
        exact ev_pos h1 (Ev.now 21)
      · by_cases h2 : x > 3
        · have e : outB x 1 3 = true := by unfold outB; rw [decide_eq_true h2]; simp
          rw [e, if_pos (by rfl)]
          exact ev_neg h1 (ev_pos h2 (Ev.now 21))
        · have e : outB x 1 3 = false := by unfold outB; rw [decide_eq_false h2, decide_eq_false h1]; rfl
          rw [e, Bool.false_or]
          exact ev_neg h1 (ev_neg h2 ih)
theorem s1_ev (hth : th.length ≤ 140737488355328) (R : Int) (hR : Ev (fun k => interlockref02_Sound.l2 k 0 V A L ch G O th) R) : ∀ (d j : Nat) (b : Bool), j + d = th.length →
    Ev (fun k => interlockref02_Sound.l1 k b (j : Int) V A L ch G O th) (if (b || longs (th.drop j)) = true then 3 else R)
  | 0, j, b, h => by
    obtain rfl : j = th.length := by omega
    rw [List.drop_eq_nil_of_le (Nat.le_refl _), show (b || longs []) = b by cases b <;> rfl]
    refine Ev.step (f := fun k => if b = true then some 3 else interlockref02_Sound.l2 k 0 V A L ch G O th) (fun k => ?_) (ev_if (fun _ => Ev.now 3) (fun _ => hR))
    simp only [interlockref02_Sound.l1]
    rw [if_neg (by omega)]
  | d + 1, j, b, h => by
    have hj : j < th.length := by omega
    rw [code_drop hj, show longs (codeAt th j :: th.drop (j + 1)) = (decide (60 < (codeAt th j).length) || longs (th.drop (j + 1))) from rfl]
    cases b with
    | true =>
      refine Ev.step (fun k => ?_) (s1_ev hth R hR d (j + 1) true (by omega))
      simp only [interlockref02_Sound.l1]
      rw [if_pos (by omega), if_pos trivial, up j (by omega)]
    | false =>
      rw [Bool.false_or]
      refine Ev.step (fun k => ?_) (s1_ev hth R hR d (j + 1) _ (by omega))
      simp only [interlockref02_Sound.l1]
      rw [if_pos (by omega), if_neg (by decide), if_pos (by omega), up j (by omega), rd_code]
      congr 1
      exact decide_eq_decide.2 ⟨fun h => by omega, fun h => by omega⟩
theorem s0_step (l : List Int) (hl : l.length = 4) (b : Bool) (j : Nat) (hj : j < 4) (R : Int) (hR : Ev (fun k => interlockref02_Sound.l0 k (b || outB (rd l (j : Int)) 0 4) l ((j + 1 : Nat) : Int) V A L ch G O th) R) :
    Ev (fun k => interlockref02_Sound.l0 k b l (j : Int) V A L ch G O th) R := by
  refine Ev.step (fun k => ?_) hR
  simp only [interlockref02_Sound.l0]
  rw [if_pos (by omega), up j (by omega)]
  cases b with
  | true => rw [if_pos rfl]; rfl
  | false =>
    rw [if_neg (by decide), if_pos (by omega), if_pos (by omega)]
    unfold outB
    by_cases h : rd l (j : Int) < 0
    · rw [if_pos h, decide_eq_true h]; rfl
    · rw [if_neg h, decide_eq_false h]; rfl
theorem rsound_ev (hch : ch.length ≤ 9223372036854775807) (hth : th.length ≤ 140737488355328) (hby : bytesOK th = true) (hc : ∀ i, i < th.length → (codeAt th i).length ≤ 140737488355328) :
    Ev (fun k => interlockref02_Sound.f k V A L ch G O th) (soundRes V A L ch G O th) := by
  have a3 := s3_ev V A L G O ch th hth hby hc th.length 0 (by omega)
  have a2 := s2_ev V A L G O ch th hch _ a3 ch.length 0 (by omega)
  have a1 := fun b => s1_ev V A L G O ch th hth _ a2 th.length 0 b (by omega)
  simp only [List.drop_zero] at a1
  have a0 : ∀ b : Bool, Ev (fun k => interlockref02_Sound.j0 k b V A L ch G O th) (if (((((b || outB A 0 4) || outB L 0 4) || outB G 0 4) || outB O 0 4) || longs th) = true then 3 else if ch.any (fun n => outB n 1 3) = true then 21 else allRes (lims V A L ch.length G O th.length) th) := by
    intro b
    refine Ev.step (f := fun k => interlockref02_Sound.l0 k b [A, L, G, O] ((0 : Nat) : Int) V A L ch G O th) (fun k => rfl) ?_
    refine s0_step V A L G O ch th [A, L, G, O] rfl _ 0 (by omega) _ (s0_step V A L G O ch th [A, L, G, O] rfl _ 1 (by omega) _ (s0_step V A L G O ch th [A, L, G, O] rfl _ 2 (by omega) _ (s0_step V A L G O ch th [A, L, G, O] rfl _ 3 (by omega) _ ?_)))
    refine Ev.step (fun k => ?_) (a1 _)
    simp only [interlockref02_Sound.l0]
    exact if_neg (by decide)
  have e : ∀ b : Bool, b = (outB V 0 8 || outB (ch.length : Int) 0 4 || outB (th.length : Int) 1 6) → Ev (fun k => interlockref02_Sound.j0 k b V A L ch G O th) (soundRes V A L ch G O th) := by
    intro b hb
    have := a0 b
    unfold soundRes far
    rw [hb] at this ⊢
    refine Eq.mp ?_ this
    congr 2
    generalize outB V 0 8 = p0
    generalize outB A 0 4 = p1
    generalize outB L 0 4 = p2
    generalize outB G 0 4 = p3
    generalize outB O 0 4 = p4
    generalize outB (ch.length : Int) 0 4 = p5
    generalize outB (th.length : Int) 1 6 = p6
    cases p0 <;> cases p1 <;> cases p2 <;> cases p3 <;> cases p4 <;> cases p5 <;> cases p6 <;> rfl
  unfold interlockref02_Sound.f
  by_cases h1 : V < 0
  · exact ev_pos h1 (e true (by unfold outB; rw [decide_eq_true h1]; rfl))
  refine ev_neg h1 ?_
  by_cases h2 : V > 8
  · exact ev_pos h2 (e true (by unfold outB; rw [decide_eq_true h2]; simp))
  refine ev_neg h2 ?_
  by_cases h3 : (ch.length : Int) > 4
  · exact ev_pos h3 (e true (by unfold outB; rw [decide_eq_true h3]; simp))
  refine ev_neg h3 ?_
  by_cases h4 : (th.length : Int) < 1
  · exact ev_pos h4 (e true (by unfold outB; rw [decide_eq_true h4]; simp))
  refine ev_neg h4 (e _ ?_)
  unfold outB
  rw [decide_eq_false h1, decide_eq_false h2, decide_eq_false h3, decide_eq_false h4, decide_eq_false (show ¬ ((ch.length : Int) < 0) by omega)]
  simp
end
end Go.Proofs.Ytkkhjfkgfmodnaa.Pure
