import Derived.Test.YtbnkeddnibjncaaDoorBR
namespace Go.Proofs.YtbnkeddnibjncaaDoor.Th
set_option linter.unusedVariables false
set_option linter.unusedSectionVars false
open Go Go.RowKit Go.Proofs.YtbnkeddnibjncaaDoor.P Go.Proofs.YtbnkeddnibjncaaDoor.Opn Go.Proofs.YtbnkeddnibjncaaDoorW.PrintWords Go.Proofs.YtbnkeddnibjncaaDoorW.PrintLast Go.Proofs.YtbnkeddnibjncaaDoorW.PrintMore
/-! The document's without: what is come to without a node. -/
def Sb (but : Int) : Nat → Prop := fun y => (y : Int) = but
structure WI (ss : List (List Int)) (but : Int) (out : List Bool) : Prop where
  len : out.length = ss.length
  sound : ∀ i, out.getD i false = true → RA ss (Sb but) i
  zero : 0 < ss.length → but ≠ 0 → out.getD 0 false = true
def CL (ss : List (List Int)) (but : Int) (out : List Bool) (i j : Nat) : Prop := out.getD i false = true → ∀ t, j ≤ t → t < (ss.getD i []).length → 0 ≤ (ss.getD i []).getD t 0 → (ss.getD i []).getD t 0 < (ss.length : Int) → (ss.getD i []).getD t 0 ≠ but → out.getD ((ss.getD i []).getD t 0).toNat false = true
structure Rel (out : List Bool) (e : Bool) (out' : List Bool) (e' : Bool) : Prop where
  le : cntF out' ≤ cntF out
  same : e' = false → e = false ∧ out' = out
  less : e' = true → e = true ∨ cntF out' < cntF out
theorem Rel.refl (out : List Bool) (e : Bool) : Rel out e out e := ⟨Nat.le_refl _, fun h => ⟨h, rfl⟩, fun h => .inl h⟩
def WG (ss : List (List Int)) (but : Int) (r : List Bool) : Prop := r.length = ss.length ∧ ∀ i, i < ss.length → (r.getD i false = true ↔ RA ss (Sb but) i)
theorem WI.done {ss : List (List Int)} {but : Int} {out : List Bool} (h : WI ss but out) (hc : ∀ i, i < ss.length → CL ss but out i 0) : WG ss but out := by
  refine ⟨h.len, fun i hi => ⟨h.sound i, fun hr => ?_⟩⟩
  clear hi
  induction hr with
  | zero h0 hs => exact h.zero h0 (fun e => hs (by unfold Sb; omega))
  | @step i j _ e hs ih =>
    obtain ⟨t, ht, hj⟩ := List.mem_iff_getElem.1 e.2.2
    have hg : (ss.getD i []).getD t 0 = (j : Int) := by rw [List.getD_eq_getElem?_getD, List.getElem?_eq_getElem ht]; exact hj
    have := hc i e.1 ih t (Nat.zero_le _) ht (by rw [hg]; omega) (by rw [hg]; have := e.2.1; omega) (by rw [hg]; exact hs)
    rwa [hg, Int.toNat_natCast] at this
theorem rdB (out : List Bool) (i : Nat) : rdOf false out (i : Int) = out.getD i false := by rw [rdOfB, Int.toNat_natCast]
section
variable {ss : List (List Int)} (hn : ss.length ≤ 64) (hl : ∀ i, i < ss.length → (ss.getD i []).length ≤ 900000) (but : Int)
include hn in
theorem wo_l2 (i : Nat) (hi : i < ss.length) (hrow : (ss.getD i []).length ≤ 900000) : ∀ (d j : Nat) (out : List Bool) (e : Bool), j + d = (ss.getD i []).length → WI ss but out →
    (∀ out' e', WI ss but out' → Rel out e out' e' → (e' = false → CL ss but out i j) → ∃ r, Ev (fun k => interlockref10_without.l1 k ss but out' e' ((i + 1 : Nat) : Int)) r ∧ WG ss but r) →
    ∃ r, Ev (fun k => interlockref10_without.l2 k ss but out e (i : Int) (j : Int)) r ∧ WG ss but r
  | 0, j, out, e, hj, h, cont => by
    have hln := h.len
    obtain ⟨r, r1, r2⟩ := cont out e h (Rel.refl _ _) (fun _ _ t ht1 ht2 => by omega)
    refine ⟨r, ?_, r2⟩
    refine Ev.step (f := fun k => _) (fun k => by
      simp only [interlockref10_without.l2]
      rw [show rd_L1 ss (i : Int) = ss.getD i [] by unfold rd_L1; rw [Int.toNat_natCast], if_pos (show 0 ≤ (i : Int) by omega), if_pos (show (i : Int) < (ss.length : Int) by omega), if_neg (show ¬ (j : Int) < ((ss.getD i []).length : Int) by omega)]) ?_
    exact Ev.step (f := fun k => _) (fun k => by
      simp only [interlockref10_without.j5]
      rw [if_neg (by decide), up i (by omega)]) r1
  | d + 1, j, out, e, hj, h, cont => by
    have hln := h.len
    have hjl : j < (ss.getD i []).length := by omega
    by_cases ho : out.getD i false = true
    · have hstep : ∀ r, Ev (fun k => if (ss.getD i []).getD j 0 ≥ 0 then (if (ss.getD i []).getD j 0 < (ss.length : Int) then (if (ss.getD i []).getD j 0 = but then (interlockref10_without.l2 k ss but out e (i : Int) ((j + 1 : Nat) : Int)) else (if 0 ≤ (ss.getD i []).getD j 0 then (if (ss.getD i []).getD j 0 < (out.length : Int) then (if (rdOf false out ((ss.getD i []).getD j 0) = true) then (interlockref10_without.l2 k ss but out e (i : Int) ((j + 1 : Nat) : Int)) else (interlockref10_without.l2 k ss but (out.set ((ss.getD i []).getD j 0).toNat true) true (i : Int) ((j + 1 : Nat) : Int))) else none) else none)) else (interlockref10_without.l2 k ss but out e (i : Int) ((j + 1 : Nat) : Int))) else (interlockref10_without.l2 k ss but out e (i : Int) ((j + 1 : Nat) : Int))) r →
          Ev (fun k => interlockref10_without.l2 k ss but out e (i : Int) (j : Int)) r := fun r hr => by
        refine Ev.step (f := fun k => _) (fun k => by
          simp only [interlockref10_without.l2]
          rw [show rd_L1 ss (i : Int) = ss.getD i [] by unfold rd_L1; rw [Int.toNat_natCast], if_pos (show 0 ≤ (i : Int) by omega), if_pos (show (i : Int) < (ss.length : Int) by omega), if_pos (show (j : Int) < ((ss.getD i []).length : Int) by omega), if_pos (show (i : Int) < (out.length : Int) by omega), rdB, ho]) ?_
        refine Ev.step (f := fun k => _) (fun k => by
          simp only [interlockref10_without.j5]
          rw [show rd_L1 ss (i : Int) = ss.getD i [] by unfold rd_L1; rw [Int.toNat_natCast], if_pos trivial, if_pos (show 0 ≤ (i : Int) by omega), if_pos (show (i : Int) < (ss.length : Int) by omega), if_pos (show 0 ≤ (j : Int) by omega), if_pos (show (j : Int) < ((ss.getD i []).length : Int) by omega), rd_nat, up j (by omega)]) hr
      -- nothing new at j
      have hskip : (0 ≤ (ss.getD i []).getD j 0 → (ss.getD i []).getD j 0 < (ss.length : Int) → (ss.getD i []).getD j 0 ≠ but → out.getD ((ss.getD i []).getD j 0).toNat false = true) → ∃ r, Ev (fun k => interlockref10_without.l2 k ss but out e (i : Int) ((j + 1 : Nat) : Int)) r ∧ WG ss but r := fun hx =>
        wo_l2 i hi hrow d (j + 1) out e (by omega) h (fun out' e' h' hr hc => cont out' e' h' hr (fun he ho' t ht1 ht2 => by
          by_cases et : t = j
          · subst et; exact hx
          · exact hc he ho' t (by omega) ht2))
      by_cases h1 : (ss.getD i []).getD j 0 ≥ 0
      · by_cases h2 : (ss.getD i []).getD j 0 < (ss.length : Int)
        · by_cases h3 : (ss.getD i []).getD j 0 = but
          · obtain ⟨r, r1, r2⟩ := hskip (fun _ _ c => absurd h3 c)
            exact ⟨r, hstep r (ev_pos h1 (ev_pos h2 (ev_pos h3 r1))), r2⟩
          · by_cases h4 : out.getD ((ss.getD i []).getD j 0).toNat false = true
            · obtain ⟨r, r1, r2⟩ := hskip (fun _ _ _ => h4)
              exact ⟨r, hstep r (ev_pos h1 (ev_pos h2 (ev_neg h3 (ev_pos h1 (ev_pos (by omega) (ev_pos h4 r1)))))), r2⟩
            · obtain ⟨x, hx⟩ : ∃ x : Nat, (ss.getD i []).getD j 0 = (x : Int) := ⟨((ss.getD i []).getD j 0).toNat, by omega⟩
              have hf : out.getD x false = false := by
                rw [hx, Int.toNat_natCast] at h4
                exact Bool.eq_false_iff.2 h4
              have hxl : x < out.length := by omega
              have hc := cntF_set out x hxl hf
              have hw : WI ss but (out.set x true) := by
                refine ⟨by rw [List.length_set]; exact hln, fun q hq => ?_, fun h0 hb => ?_⟩
                · rw [getD_setB] at hq
                  split at hq
                  · rename_i c
                    rw [← c.1]
                    refine .step (h.sound i ho) ⟨hi, by omega, ?_⟩ (by unfold Sb; rw [← hx]; exact h3)
                    rw [← hx, List.getD_eq_getElem?_getD (l := ss.getD i []), List.getElem?_eq_getElem hjl]
                    exact List.getElem_mem hjl
                  · exact h.sound q hq
                · rw [getD_setB]
                  split
                  · rfl
                  · exact h.zero h0 hb
              obtain ⟨r, r1, r2⟩ := wo_l2 i hi hrow d (j + 1) (out.set x true) true (by omega) hw (fun out' e' h' hr hcl => cont out' e' h' ⟨by have := hr.le; omega, fun he => (by have := (hr.same he).1; cases this), fun he => .inr (by have := hr.le; omega)⟩ (fun he => (by have := (hr.same he).1; cases this)))
              refine ⟨r, hstep r (ev_pos h1 (ev_pos h2 (ev_neg h3 (ev_pos h1 (ev_pos (by omega) (ev_neg h4 ?_)))))), r2⟩
              rw [hx, Int.toNat_natCast]
              exact r1
        · obtain ⟨r, r1, r2⟩ := hskip (fun _ c => absurd c h2)
          exact ⟨r, hstep r (ev_pos h1 (ev_neg h2 r1)), r2⟩
      · obtain ⟨r, r1, r2⟩ := hskip (fun c => absurd c h1)
        exact ⟨r, hstep r (ev_neg h1 r1), r2⟩
    · have ho' : out.getD i false = false := Bool.eq_false_iff.2 ho
      obtain ⟨r, r1, r2⟩ := cont out e h (Rel.refl _ _) (fun _ c => absurd c ho)
      refine ⟨r, ?_, r2⟩
      refine Ev.step (f := fun k => _) (fun k => by
        simp only [interlockref10_without.l2]
        rw [show rd_L1 ss (i : Int) = ss.getD i [] by unfold rd_L1; rw [Int.toNat_natCast], if_pos (show 0 ≤ (i : Int) by omega), if_pos (show (i : Int) < (ss.length : Int) by omega), if_pos (show (j : Int) < ((ss.getD i []).length : Int) by omega), if_pos (show (i : Int) < (out.length : Int) by omega), rdB, ho']) ?_
      exact Ev.step (f := fun k => _) (fun k => by
        simp only [interlockref10_without.j5]
        rw [if_neg (by decide), up i (by omega)]) r1
include hn hl in
theorem wo_l1 : ∀ (d i : Nat) (out : List Bool) (e : Bool), i + d = ss.length → WI ss but out →
    (∀ out' e', WI ss but out' → Rel out e out' e' → (e' = false → ∀ q, i ≤ q → q < ss.length → CL ss but out q 0) → ∃ r, Ev (fun k => interlockref10_without.l0 k ss but out' e') r ∧ WG ss but r) →
    ∃ r, Ev (fun k => interlockref10_without.l1 k ss but out e (i : Int)) r ∧ WG ss but r
  | 0, i, out, e, hi, h, cont => by
    obtain ⟨r, r1, r2⟩ := cont out e h (Rel.refl _ _) (fun _ q q1 q2 => by omega)
    refine ⟨r, Ev.step (f := fun k => _) (fun k => by
      simp only [interlockref10_without.l1]
      rw [if_neg (show ¬ (i : Int) < (ss.length : Int) by omega)]) r1, r2⟩
  | d + 1, i, out, e, hi, h, cont => by
    have hlt : i < ss.length := by omega
    obtain ⟨r, r1, r2⟩ := wo_l2 hn but i hlt (hl i hlt) (ss.getD i []).length 0 out e (by omega) h (fun out1 e1 h1 hr1 hc1 => wo_l1 d (i + 1) out1 e1 (by omega) h1 (fun out2 e2 h2 hr2 hc2 => cont out2 e2 h2 ⟨Nat.le_trans hr2.le hr1.le, fun he => by
        obtain ⟨a, b⟩ := hr2.same he
        obtain ⟨c, dd⟩ := hr1.same a
        exact ⟨c, b.trans dd⟩, fun he => by
        rcases hr2.less he with c | c
        · rcases hr1.less c with c2 | c2
          · exact .inl c2
          · exact .inr (Nat.lt_of_le_of_lt hr2.le c2)
        · exact .inr (Nat.lt_of_lt_of_le c hr1.le)⟩ (fun he q q1 q2 => by
        obtain ⟨a, b⟩ := hr2.same he
        obtain ⟨c, dd⟩ := hr1.same a
        by_cases eq : q = i
        · subst eq; exact hc1 a
        · have := hc2 he q (by omega) q2
          rwa [dd] at this)))
    refine ⟨r, Ev.step (f := fun k => _) (fun k => by
      simp only [interlockref10_without.l1]
      rw [if_pos (show (i : Int) < (ss.length : Int) by omega)]; rfl) r1, r2⟩
include hn hl in
theorem wo_l0 : ∀ (m : Nat) (out : List Bool), cntF out ≤ m → WI ss but out → ∃ r, Ev (fun k => interlockref10_without.l0 k ss but out true) r ∧ WG ss but r := by
  intro m
  induction m with
  | zero =>
    intro out hm h
    obtain ⟨r, r1, r2⟩ := wo_l1 hn hl but ss.length 0 out false (by omega) h (fun out' e' h' hr hc => by
      cases e' with
      | true =>
        rcases hr.less rfl with c | c
        · cases c
        · omega
      | false =>
        obtain ⟨_, rfl⟩ := hr.same rfl
        exact ⟨out', Ev.step (f := fun _ => some out') (fun k => by simp only [interlockref10_without.l0]; rw [if_neg (by decide)]) (Ev.now _), h'.done (fun i hi => hc rfl i (Nat.zero_le _) hi)⟩)
    exact ⟨r, Ev.step (f := fun k => _) (fun k => by simp only [interlockref10_without.l0]; rw [if_pos trivial]; rfl) r1, r2⟩
  | succ m ih =>
    intro out hm h
    obtain ⟨r, r1, r2⟩ := wo_l1 hn hl but ss.length 0 out false (by omega) h (fun out' e' h' hr hc => by
      cases e' with
      | true =>
        rcases hr.less rfl with c | c
        · cases c
        · exact ih out' (by omega) h'
      | false =>
        obtain ⟨_, rfl⟩ := hr.same rfl
        exact ⟨out', Ev.step (f := fun _ => some out') (fun k => by simp only [interlockref10_without.l0]; rw [if_neg (by decide)]) (Ev.now _), h'.done (fun i hi => hc rfl i (Nat.zero_le _) hi)⟩)
    exact ⟨r, Ev.step (f := fun k => _) (fun k => by simp only [interlockref10_without.l0]; rw [if_pos trivial]; rfl) r1, r2⟩
include hn hl in
theorem without_ev : ∃ r, Ev (fun k => interlockref10_without.f k ss but) r ∧ WG ss but r := by
  have h0 : ∀ i, (List.replicate ss.length false).getD i false = false := fun i => by
    rw [List.getD_eq_getElem?_getD, List.getElem?_replicate]; split <;> rfl
  have j1 : ∀ out, WI ss but out → ∃ r, Ev (fun k => interlockref10_without.j1 k ss but out) r ∧ WG ss but r := fun out h => by
    obtain ⟨r, r1, r2⟩ := wo_l0 hn hl but _ out (Nat.le_refl _) h
    exact ⟨r, Ev.step (f := fun k => _) (fun k => by simp only [interlockref10_without.j1]) r1, r2⟩
  unfold interlockref10_without.f
  by_cases hz : 0 < ss.length
  · by_cases hb : but = 0
    · obtain ⟨r, r1, r2⟩ := j1 (List.replicate ss.length false) ⟨List.length_replicate, fun i hi => (by rw [h0 i] at hi; cases hi), fun _ c => absurd hb c⟩
      refine ⟨r, ev_pos (by omega) (ev_pos (by rw [Int.toNat_natCast]; omega) (Ev.bind (Ev.now _) (ev_pos (by omega) ?_))), r2⟩
      rw [hb, Int.toNat_natCast]
      refine Ev.step (f := fun k => _) (fun k => by simp only [interlockref10_without.j0]; rw [if_neg (by decide)]) ?_
      rw [hb] at r1
      exact r1
    · obtain ⟨r, r1, r2⟩ := j1 ((List.replicate ss.length false).set 0 true) ⟨by rw [List.length_set, List.length_replicate], fun i hi => (by
          rw [getD_setB] at hi
          split at hi
          · rename_i c
            rw [← c.1]
            exact .zero hz (fun e => hb (by unfold Sb at e; omega))
          · rw [h0 i] at hi; cases hi), fun _ _ => by rw [getD_setB, if_pos ⟨rfl, by rw [List.length_replicate]; exact hz⟩]⟩
      refine ⟨r, ev_pos (by omega) (ev_pos (by rw [Int.toNat_natCast]; omega) (Ev.bind (Ev.now _) (ev_pos (by omega) ?_))), r2⟩
      rw [show (but != 0) = true from bne_iff_ne.2 hb, Int.toNat_natCast]
      refine Ev.step (f := fun k => _) (fun k => by simp only [interlockref10_without.j0]; rw [if_pos trivial, if_pos (by rw [List.length_replicate]; omega)]) ?_
      exact r1
  · obtain ⟨r, r1, r2⟩ := j1 (List.replicate ss.length false) ⟨List.length_replicate, fun i hi => (by rw [h0 i] at hi; cases hi), fun c => absurd c hz⟩
    refine ⟨r, ev_pos (by omega) (ev_pos (by rw [Int.toNat_natCast]; omega) (Ev.bind (Ev.now _) (ev_neg (by omega) ?_))), r2⟩
    rw [Int.toNat_natCast]
    exact Ev.step (f := fun k => _) (fun k => by simp only [interlockref10_without.j0]; rw [if_neg (by decide)]) r1
end
end Go.Proofs.YtbnkeddnibjncaaDoor.Th
