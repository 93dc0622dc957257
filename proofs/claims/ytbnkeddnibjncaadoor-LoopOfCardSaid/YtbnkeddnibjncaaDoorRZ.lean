import Derived.Test.YtbnkeddnibjncaaDoorBR
namespace Go.Proofs.YtbnkeddnibjncaaDoor.Th
set_option linter.unusedVariables false
set_option linter.unusedSectionVars false
open Go Go.RowKit Go.Proofs.YtbnkeddnibjncaaDoor.P Go.Proofs.YtbnkeddnibjncaaDoor.Opn Go.Proofs.YtbnkeddnibjncaaDoorW.PrintWords Go.Proofs.YtbnkeddnibjncaaDoorW.PrintLast Go.Proofs.YtbnkeddnibjncaaDoorW.PrintMore
/-! The document's without: what is come to without a node. -/
def Sb (but : Int) : Nat → Prop := fun y => (y : Int) = but
structure WI (ss : List (List Int)) (but : Int) (out : List Bool) : Prop where
  len : out.length = ss.length
  sound : ∀ i, out.getD i false = true → RA ss (Sb but) i
  zero : 0 < ss.length → but ≠ 0 → out.getD 0 false = true
def CL (ss : List (List Int)) (but : Int) (out : List Bool) (i j : Nat) : Prop := out.getD i false = true → ∀ t, j ≤ t → t < (ss.getD i []).length → 0 ≤ (ss.getD i []).getD t 0 → (ss.getD i []).getD t 0 < (ss.length : Int) → (ss.getD i []).getD t 0 ≠ but → out.getD ((ss.getD i []).getD t 0).toNat false = true
structure Rel (out : List Bool) (e : Bool) (out' : List Bool) (e' : Bool) : Prop where
  le : cntF out' ≤ cntF out
  same : e' = false → e = false ∧ out' = out
  less : e' = true → e = true ∨ cntF out' < cntF out
theorem Rel.refl (out : List Bool) (e : Bool) : Rel out e out e := ⟨Nat.le_refl _, fun h => ⟨h, rfl⟩, fun h => .inl h⟩
def WG (ss : List (List Int)) (but : Int) (r : List Bool) : Prop := r.length = ss.length ∧ ∀ i, i < ss.length → (r.getD i false = true ↔ RA ss (Sb but) i)
theorem WI.done {ss : List (List Int)} {but : Int} {out : List Bool} (h : WI ss but out) (hc : ∀ i, i < ss.length → CL ss but out i 0) : WG ss but out := by
  refine ⟨h.len, fun i hi => ⟨h.sound i, fun hr => ?_⟩⟩
  clear hi
  induction hr with
  | zero h0 hs => exact h.zero h0 (fun e => hs (by unfold Sb; omega))
  | @step i j _ e hs ih =>
    obtain ⟨t, ht, hj⟩ := List.mem_iff_getElem.1 e.2.2
    have hg : (ss.getD i []).getD t 0 = (j : Int) := by rw [List.getD_eq_getElem?_getD, List.getElem?_eq_getElem ht]; exact hj
    have := hc i e.1 ih t (Nat.zero_le _) ht (by rw [hg]; omega) (by rw [hg]; have := e.2.1; omega) (by rw [hg]; exact hs)
    rwa [hg, Int.toNat_natCast] at this
theorem rdB (out : List Bool) (i : Nat) : rdOf false out (i : Int) = out.getD i false := by rw [rdOfB, Int.toNat_natCast]
section
variable {ss : List (List Int)} (hn : ss.length ≤ 64) (hl : ∀ i, i < ss.length → (ss.getD i []).length ≤ 900000) (but : Int)
include hn in
theorem wo_l2 (i : Nat) (hi : i < ss.length) (hrow : (ss.getD i []).length ≤ 900000) : ∀ (d j : Nat) (out : List Bool) (e : Bool), j + d = (ss.getD i []).length → WI ss but out →
    (∀ out' e', WI ss but out' → Rel out e out' e' → (e' = false → CL ss but out i j) → ∃ r, Ev (fun k => interlockref10_without.l1 k ss but out' e' ((i + 1 : Nat) : Int)) r ∧ WG ss but r) →
    ∃ r, Ev (fun k => interlockref10_without.l2 k ss but out e (i : Int) (j : Int)) r ∧ WG ss but r
  | 0, j, out, e, hj, h, cont => by
    have hln := h.len
    obtain ⟨r, r1, r2⟩ := cont out e h (Rel.refl _ _) (fun _ _ t ht1 ht2 => by omega)
    refine ⟨r, ?_, r2⟩
    refine Ev.step (f := fun k => _) (fun k => by
      simp only [interlockref10_without.l2]
      rw [show rd_L1 ss (i : Int) = ss.getD i [] by unfold rd_L1; rw [Int.toNat_natCast], if_pos (show 0 ≤ (i : Int) by omega), if_pos (show (i : Int) < (ss.length : Int) by omega), if_neg (show ¬ (j : Int) < ((ss.getD i []).length : Int) by omega)]) ?_
    exact Ev.step (f := fun k => _) (fun k => by
      simp only [interlockref10_without.j5]
      rw [if_neg (by decide), up i (by omega)]) r1
  | d + 1, j, out, e, hj, h, cont => by
    have hln := h.len
    have hjl : j < (ss.getD i []).length := by omega
    by_cases ho : out.getD i false = true
    · have hstep : ∀ r, Ev (fun k => if (ss.getD i []).getD j 0 ≥ 0 then (if (ss.getD i []).getD j 0 < (ss.length : Int) then (if (ss.getD i []).getD j 0 = but then (interlockref10_without.l2 k ss but out e (i : Int) ((j + 1 : Nat) : Int)) else (if 0 ≤ (ss.getD i []).getD j 0 then (if (ss.getD i []).getD j 0 < (out.length : Int) then (if (rdOf false out ((ss.getD i []).getD j 0) = true) then (interlockref10_without.l2 k ss but out e (i : Int) ((j + 1 : Nat) : Int)) else (interlockref10_without.l2 k ss but (out.set ((ss.getD i []).getD j 0).toNat true) true (i : Int) ((j + 1 : Nat) : Int))) else none) else none)) else (interlockref10_without.l2 k ss but out e (i : Int) ((j + 1 : Nat) : Int))) else (interlockref10_without.l2 k ss but out e (i : Int) ((j + 1 : Nat) : Int))) r →
          Ev (fun k => interlockref10_without.l2 k ss but out e (i : Int) (j : Int)) r := fun r hr => by
        refine Ev.step (f := fun k => _) (fun k => by
          simp only [interlockref10_without.l2]
          rw [show rd_L1 ss (i : Int) = ss.getD i [] by unfold rd_L1; rw [Int.toNat_natCast], if_pos (show 0 ≤ (i : Int) by omega), if_pos (show (i : Int) < (ss.length : Int) by omega), if_pos (show (j : Int) < ((ss.getD i []).length : Int) by omega), if_pos (show (i : Int) < (out.length : Int) by omega), rdB, ho]) ?_
        refine Ev.step (f := fun k => _) (fun k => by
          simp only [interlockref10_without.j5]
          rw [show rd_L1 ss (i : Int) = ss.getD i [] by unfold rd_L1; rw [Int.toNat_natCast], if_pos trivial, if_pos (show 0 ≤ (i : Int) by omega), if_pos (show (i : Int) < (ss.length : Int) by omega), if_pos (show 0 ≤ (j : Int) by omega), if_pos (show (j : Int) < ((ss.getD i []).length : Int) by omega), rd_nat, up j (by omega)]) hr
      -- nothing new at j
      have hskip : (0 ≤ (ss.getD i []).getD j 0 → (ss.getD i []).getD j 0 < (ss.length : Int) → (ss.getD i []).getD j 0 ≠ but → out.getD ((ss.getD i []).getD j 0).toNat false = true) → ∃ r, Ev (fun k => interlockref10_without.l2 k ss but out e (i : Int) ((j + 1 : Nat) : Int)) r ∧ WG ss but r := fun hx =>
        wo_l2 i hi hrow d (j + 1) out e (by omega) h (fun out' e' h' hr hc => cont out' e' h' hr (fun he ho' t ht1 ht2 => by
          by_cases et : t = j
          · subst et; exact hx
          · exact hc he ho' t (by omega) ht2))
      by_cases h1 : (ss.getD i []).getD j 0 ≥ 0
      · by_cases h2 : (ss.getD i []).getD j 0 < (ss.length : Int)
        · by_cases h3 : (ss.getD i []).getD j 0 = but
          · obtain ⟨r, r1, r2⟩ := hskip (fun _ _ c => absurd h3 c)
            exact ⟨r, hstep r (ev_pos h1 (ev_pos h2 (ev_pos h3 r1))), r2⟩
          · by_cases h4 : out.getD ((ss.getD i []).getD j 0).toNat false = true
            · obtain ⟨r, r1, r2⟩ := hskip (fun _ _ _ => h4)
              exact ⟨r, hstep r (ev_pos h1 (ev_pos h2 (ev_neg h3 (ev_pos h1 (ev_pos (by omega) (ev_pos h4 r1)))))), r2⟩
            · obtain ⟨x, hx⟩ : ∃ x : Nat, (ss.getD i []).getD j 0 = (x : Int) := ⟨((ss.getD i []).getD j 0).toNat, by omega⟩
              have hf : out.getD x false = false := by
                rw [hx, Int.toNat_natCast] at h4
                exact Bool.eq_false_iff.2 h4
              have hxl : x < out.length := by omega
              have hc := cntF_set out x hxl hf
              have hw : WI ss but (out.set x true) := by
                refine ⟨by rw [List.length_set]; exact hln, fun q hq => ?_, fun h0 hb => ?_⟩
                · rw [getD_setB] at hq
                  split at hq
                  · rename_i c
                    rw [← c.1]
                    refine .step (h.sound i ho) ⟨hi, by omega, ?_⟩ (by unfold Sb; rw [← hx]; exact h3)
                    rw [← hx, List.getD_eq_getElem?_getD (l := ss.getD i []), List.getElem?_eq_getElem hjl]
                    exact List.getElem_mem hjl
                  · exact h.sound q hq
                · rw [getD_setB]
                  split
                  · rfl
                  · exact h.zero h0 hb
              obtain ⟨r, r1, r2⟩ := wo_l2 i hi hrow d (j + 1) (out.set x true) true (by omega) hw (fun out' e' h' hr hcl => cont out' e' h' ⟨by have := hr.le; omega, fun he => (by have := (hr.same he).1; cases this), fun he => .inr (by have := hr.le; omega)⟩ (fun he => (by have := (hr.same he).1; cases this)))
              refine ⟨r, hstep r (ev_pos h1 (ev_pos h2 (ev_neg h3 (ev_pos h1 (ev_pos (by omega) (ev_neg h4 ?_)))))), r2⟩
              rw [hx, Int.toNat_natCast]
              exact r1
        · obtain ⟨r, r1, r2⟩ := hskip (fun _ c => absurd c h2)
          exact ⟨r, hstep r (ev_pos h1 (ev_neg h2 r1)), r2⟩
      · obtain ⟨r, r1, r2⟩ := hskip (fun c => absurd c h1)
        exact ⟨r, hstep r (ev_neg h1 r1), r2⟩
    · have ho' : out.getD i false = false := Bool.eq_false_iff.2 ho
      obtain ⟨r, r1, r2⟩ := cont out e h (Rel.refl _ _) (fun _ c => absurd c ho)
      refine ⟨r, ?_, r2⟩
      refine Ev.step (f := fun k => _) (fun k => by
        simp only [interlockref10_without.l2]
        rw [show rd_L1 ss (i : Int) = ss.getD i [] by unfold rd_L1; rw [Int.toNat_natCast], if_pos (show 0 ≤ (i : Int) by omega), if_pos (show (i : Int) < (ss.length : Int) by omega), if_pos (show (j : Int) < ((ss.getD i []).length : Int) by omega), if_pos (show (i : Int) < (out.length : Int) by omega), rdB, ho']) ?_
      exact Ev.step (f := fun k => _) (fun k => by
        simp only [interlockref10_without.j5]
        rw [if_neg (by decide), up i (by omega)]) r1
include hn hl in
theorem wo_l1 : ∀ (d i : Nat) (out : List Bool) (e : Bool), i + d = ss.length → WI ss but out →
    (∀ out' e', WI ss but out' → Rel out e out' e' → (e' = false → ∀ q, i ≤ q → q < ss.length → CL ss but out q 0) → ∃ r, Ev (fun k => interlockref10_without.l0 k ss but out' e') r ∧ WG ss but r) →
    ∃ r, Ev (fun k => interlockref10_without.l1 k ss but out e (i : Int)) r ∧ WG ss but r
  | 0, i, out, e, hi, h, cont => by
    obtain ⟨r, r1, r2⟩ := cont out e h (Rel.refl _ _) (fun _ q q1 q2 => by omega)
    refine ⟨r, Ev.step (f := fun k => _) (fun k => by
      simp only [interlockref10_without.l1]
      rw [if_neg (show ¬ (i : Int) < (ss.length : Int) by omega)]) r1, r2⟩
  | d + 1, i, out, e, hi, h, cont => by
    have hlt : i < ss.length := by omega
    obtain ⟨r, r1, r2⟩ := wo_l2 hn but i hlt (hl i hlt) (ss.getD i []).length 0 out e (by omega) h (fun out1 e1 h1 hr1 hc1 => wo_l1 d (i + 1) out1 e1 (by omega) h1 (fun out2 e2 h2 hr2 hc2 => cont out2 e2 h2 ⟨Nat.le_trans hr2.le hr1.le, fun he => by
        obtain ⟨a, b⟩ := hr2.same he
        obtain ⟨c, dd⟩ := hr1.same a
        exact ⟨c, b.trans dd⟩, fun he => by
        rcases hr2.less he with c | c
        · rcases hr1.less c with c2 | c2
          · exact .inl c2
          · exact .inr (Nat.lt_of_le_of_lt hr2.le c2)
        · exact .inr (Nat.lt_of_lt_of_le c hr1.le)⟩ (fun he q q1 q2 => by
        obtain ⟨a, b⟩ := hr2.same he
        obtain ⟨c, dd⟩ := hr1.same a
        by_cases eq : q = i
        · subst eq; exact hc1 a
        · have := hc2 he q (by omega) q2
          rwa [dd] at this)))
    refine ⟨r, Ev.step (f := fun k => _) (fun k => by
      simp only [interlockref10_without.l1]
      rw [if_pos (show (i : Int) < (ss.length : Int) by omega)]; rfl) r1, r2⟩
include hn hl in
theorem wo_l0 : ∀ (m : Nat) (out : List Bool), cntF out ≤ m → WI ss but out → ∃ r, Ev (fun k => interlockref10_without.l0 k ss but out true) r ∧ WG ss but r := by
  intro m
  induction m with
  | zero =>
    intro out hm h
    obtain ⟨r, r1, r2⟩ := wo_l1 hn hl but ss.length 0 out false (by omega) h (fun out' e' h' hr hc => by
      cases e' with
      | true =>
        rcases hr.less rfl with c | c
        · cases c
        · omega
      | false =>
        obtain ⟨_, rfl⟩ := hr.same rfl
        exact ⟨out', Ev.step (f := fun _ => some out') (fun k => by simp only [interlockref10_without.l0]; rw [if_neg (by decide)]) (Ev.now _), h'.done (fun i hi => hc rfl i (Nat.zero_le _) hi)⟩)
    exact ⟨r, Ev.step (f := fun k => _) (fun k => by simp only [interlockref10_without.l0]; rw [if_pos trivial]; rfl) r1, r2⟩
  | succ m ih =>
    intro out hm h
    obtain ⟨r, r1, r2⟩ := wo_l1 hn hl but ss.length 0 out false (by omega) h (fun out' e' h' hr hc => by
      cases e' with
      | true =>
        rcases hr.less rfl with c | c
        · cases c
        · exact ih out' (by omega) h'
      | false =>
        obtain ⟨_, rfl⟩ := hr.same rfl
        exact ⟨out', Ev.step (f := fun _ => some out') (fun k => by simp only [interlockref10_without.l0]; rw [if_neg (by decide)]) (Ev.now _), h'.done (fun i hi => hc rfl i (Nat.zero_le _) hi)⟩)
    exact ⟨r, Ev.step (f := fun k => _) (fun k => by simp only [interlockref10_without.l0]; rw [if_pos trivial]; rfl) r1, r2⟩
include hn hl in
theorem without_ev : ∃ r, Ev (fun k => interlockref10_without.f k ss but) r ∧ WG ss but r := by
  have h0 : ∀ i, (List.replicate ss.length false).getD i false = false := fun i => by
    rw [List.getD_eq_getElem?_getD, List.getElem?_replicate]; split <;> rfl
  have j1 : ∀ out, WI ss but out → ∃ r, Ev (fun k => interlockref10_without.j1 k ss but out) r ∧ WG ss but r := fun out h => by
    obtain ⟨r, r1, r2⟩ := wo_l0 hn hl but _ out (Nat.le_refl _) h
    exact ⟨r, Ev.step (f := fun k => _) (fun k => by simp only [interlockref10_without.j1]) r1, r2⟩
  unfold interlockref10_without.f
  by_cases hz : 0 < ss.length
  · by_cases hb : but = 0
    · obtain ⟨r, r1, r2⟩ := j1 (List.replicate ss.length false) ⟨List.length_replicate, fun i hi => (by rw [h0 i] at hi; cases hi), fun _ c => absurd hb c⟩
      refine ⟨r, ev_pos (by omega) (ev_pos (by rw [Int.toNat_natCast]; omega) (Ev.bind (Ev.now _) (ev_pos (by omega) ?_))), r2⟩
      rw [hb, Int.toNat_natCast]
      refine Ev.step (f := fun k => _) (fun k => by simp only [interlockref10_without.j0]; rw [if_neg (by decide)]) ?_
      rw [hb] at r1
      exact r1
    · obtain ⟨r, r1, r2⟩ := j1 ((List.replicate ss.length false).set 0 true) ⟨by rw [List.length_set, List.length_replicate], fun i hi => (by
          rw [getD_setB] at hi
          split at hi
          · rename_i c
            rw [← c.1]
            exact .zero hz (fun e => hb (by unfold Sb at e; omega))
          · rw [h0 i] at hi; cases hi), fun _ _ => by rw [getD_setB, if_pos ⟨rfl, by rw [List.length_replicate]; exact hz⟩]⟩
      refine ⟨r, ev_pos (by omega) (ev_pos (by rw [Int.toNat_natCast]; omega) (Ev.bind (Ev.now _) (ev_pos (by omega) ?_))), r2⟩
      rw [show (but != 0) = true from bne_iff_ne.2 hb, Int.toNat_natCast]
      refine Ev.step (f := fun k => _) (fun k => by simp only [interlockref10_without.j0]; rw [if_pos trivial, if_pos (by rw [List.length_replicate]; omega)]) ?_
      exact r1
  · obtain ⟨r, r1, r2⟩ := j1 (List.replicate ss.length false) ⟨List.length_replicate, fun i hi => (by rw [h0 i] at hi; cases hi), fun c => absurd c hz⟩
    refine ⟨r, ev_pos (by omega) (ev_pos (by rw [Int.toNat_natCast]; omega) (Ev.bind (Ev.now _) (ev_neg (by omega) ?_))), r2⟩
    rw [Int.toNat_natCast]
    exact Ev.step (f := fun k => _) (fun k => by simp only [interlockref10_without.j0]; rw [if_neg (by decide)]) r1
end
end Go.Proofs.YtbnkeddnibjncaaDoor.Th
namespace Go.Proofs.YtbnkeddnibjncaaDoor.Th
set_option linter.unusedVariables false
set_option linter.unusedSectionVars false
open Go Go.RowKit Go.Proofs.YtbnkeddnibjncaaDoor.P Go.Proofs.YtbnkeddnibjncaaDoor.Opn Go.Proofs.YtbnkeddnibjncaaDoorW.PrintWords Go.Proofs.YtbnkeddnibjncaaDoorW.PrintLast Go.Proofs.YtbnkeddnibjncaaDoorW.PrintMore
/-! The document's Reach and Doms. -/
theorem Sb_nat (d : Nat) : Sb (d : Int) = (· = d) := by
  funext y
  unfold Sb
  exact propext ⟨fun h => by omega, fun h => by rw [h]⟩
theorem rreach_ev {ss : List (List Int)} (hg : Gok ss) : ∃ r : List Bool, Ev (fun k => interlockref10_Reach.f k ss) r ∧ r.length = ss.length ∧ ∀ i, i < ss.length → (r.getD i false = true ↔ Rch ss i) := by
  obtain ⟨r, r1, r2, r3⟩ := without_ev hg.n64 hg.rows (-1)
  refine ⟨r, ?_, r2, fun i hi => (r3 i hi).trans ⟨fun h => h.rch, fun h => h.weak (fun x c => by unfold Sb at c; omega)⟩⟩
  unfold interlockref10_Reach.f
  exact Ev.bind r1 (Ev.now _)
structure RI2 (ss : List (List Int)) (D i : Nat) (out : List Nat) : Prop where
  len : out.length = ss.length
  lt : ∀ q, fn out q < U
  bit : ∀ q, q < ss.length → ∀ e, e < 64 → ((fn out q).testBit e = true ↔ (e < D ∨ (e = D ∧ q < i)) ∧ Dom ss e q)
section
variable {ss : List (List Int)} (hg : Gok ss) {rc : List Bool} (hrl : rc.length = ss.length) (hrc : ∀ i, i < ss.length → (rc.getD i false = true ↔ Rch ss i))
theorem RI2.skip {D i : Nat} {out : List Nat} (h : RI2 ss D i out) (hd : ¬ Dom ss D i) : RI2 ss D (i + 1) out := by
  refine ⟨h.len, h.lt, fun q hq e he => ?_⟩
  rw [h.bit q hq e he]
  constructor
  · rintro ⟨a, b⟩
    exact ⟨by omega, b⟩
  · rintro ⟨a, b⟩
    refine ⟨?_, b⟩
    by_cases c : e = D ∧ q = i
    · rw [c.1, c.2] at b; exact absurd b hd
    · omega
theorem RI2.put {D i : Nat} {out : List Nat} (h : RI2 ss D i out) (hi : i < ss.length) (hD : D < 64) (hd : Dom ss D i) : RI2 ss D (i + 1) (out.set i (withN (fn out i) [(D : Int)])) := by
  have hl := h.len
  have ef : fn (out.set i (withN (fn out i) [(D : Int)])) = upd (fn out) i (withN (fn out i) [(D : Int)]) := fn_set out i _ (by omega)
  refine ⟨by rw [List.length_set]; exact hl, fun q => ?_, fun q hq e he => ?_⟩
  · rw [ef]
    unfold upd
    split
    · exact with_lt _ _ (h.lt i)
    · exact h.lt q
  · rw [ef]
    unfold upd
    split
    · rename_i c
      subst c
      rw [with_bit _ _ _ he, Bool.or_eq_true, h.bit q hq e he]
      have e1 : ([(D : Int)].contains (e : Int)) = true ↔ e = D := by simp; omega
      rw [e1]
      constructor
      · rintro (⟨a, b⟩ | a)
        · exact ⟨by omega, b⟩
        · rw [a]; exact ⟨by omega, hd⟩
      · rintro ⟨a, b⟩
        by_cases c : e = D
        · exact .inr c
        · exact .inl ⟨by omega, b⟩
    · rename_i c
      rw [h.bit q hq e he]
      constructor
      · rintro ⟨a, b⟩; exact ⟨by omega, b⟩
      · rintro ⟨a, b⟩; exact ⟨by omega, b⟩
theorem RI2.next {D : Nat} {out : List Nat} (h : RI2 ss D ss.length out) : RI2 ss (D + 1) 0 out := by
  refine ⟨h.len, h.lt, fun q hq e he => ?_⟩
  rw [h.bit q hq e he]
  constructor
  · rintro ⟨a, b⟩; exact ⟨by omega, b⟩
  · rintro ⟨a, b⟩; exact ⟨by omega, b⟩
include hg hrl hrc in
theorem rdoms_l1 (D : Nat) (hD : D < ss.length) (l : List Bool) (hl : WG ss (D : Int) l)
    (cont : ∀ out, RI2 ss (D + 1) 0 out → ∃ o, Ev (fun k => interlockref10_Doms.l0 k ss rc (IL out) ((D + 1 : Nat) : Int)) (IL o) ∧ RI2 ss ss.length 0 o) : ∀ (d i : Nat) (out : List Nat), i + d = ss.length → RI2 ss D i out →
    ∃ o, Ev (fun k => interlockref10_Doms.l1 k ss rc (IL out) (D : Int) l (i : Int)) (IL o) ∧ RI2 ss ss.length 0 o
  | 0, i, out, hi, h => by
    have hn := hg.n64
    obtain rfl : i = ss.length := by omega
    obtain ⟨o, o1, o2⟩ := cont out h.next
    exact ⟨o, Ev.step (f := fun k => _) (fun k => by
      simp only [interlockref10_Doms.l1]
      rw [if_neg (by omega), up D (by omega)]) o1, o2⟩
  | d + 1, i, out, hi, h => by
    have hn := hg.n64
    have hlt : i < ss.length := by omega
    have hlen := h.len
    have hll := hl.1
    have hili : (IL out).length = ss.length := by rw [IL_len, hlen]
    have hra := hl.2 i hlt
    rw [Sb_nat] at hra
    by_cases hr : rc.getD i false = true
    · by_cases ho : l.getD i false = true
      · obtain ⟨o, o1, o2⟩ := rdoms_l1 D hD l hl cont d (i + 1) out (by omega) (h.skip (fun c => c.2 (hra.1 ho)))
        exact ⟨o, Ev.step (f := fun k => _) (fun k => by
          simp only [interlockref10_Doms.l1]
          rw [if_pos (show (i : Int) < (ss.length : Int) by omega), if_pos (show 0 ≤ (i : Int) by omega), if_pos (show (i : Int) < (rc.length : Int) by omega), rdB, if_pos hr, if_pos (show (i : Int) < (l.length : Int) by omega), rdB, if_pos ho, up i (by omega)]) o1, o2⟩
      · obtain ⟨o, o1, o2⟩ := rdoms_l1 D hD l hl cont d (i + 1) _ (by omega) (h.put hlt (by omega) ⟨(hrc i hlt).1 hr, fun c => ho (hra.2 c)⟩)
        refine ⟨o, Ev.step (f := fun k => _) (fun k => by
          simp only [interlockref10_Doms.l1]
          rw [if_pos (show (i : Int) < (ss.length : Int) by omega), if_pos (show 0 ≤ (i : Int) by omega), if_pos (show (i : Int) < (rc.length : Int) by omega), rdB, if_pos hr, if_pos (show (i : Int) < (l.length : Int) by omega), rdB, if_neg ho, if_pos (show (i : Int) < ((IL out).length : Int) by omega), IL_rd, up i (by omega), Int.toNat_natCast]) ?_, o2⟩
        refine Ev.bind (rwith_ev [(D : Int)] (by simp) _ (h.lt i)) ?_
        rw [IL_set]
        exact o1
    · obtain ⟨o, o1, o2⟩ := rdoms_l1 D hD l hl cont d (i + 1) out (by omega) (h.skip (fun c => hr ((hrc i hlt).2 c.1)))
      exact ⟨o, Ev.step (f := fun k => _) (fun k => by
        simp only [interlockref10_Doms.l1]
        rw [if_pos (show (i : Int) < (ss.length : Int) by omega), if_pos (show 0 ≤ (i : Int) by omega), if_pos (show (i : Int) < (rc.length : Int) by omega), rdB, if_neg hr, up i (by omega)]) o1, o2⟩
include hg hrl hrc in
theorem rdoms_l0 : ∀ (d D : Nat) (out : List Nat), D + d = ss.length → RI2 ss D 0 out →
    ∃ o, Ev (fun k => interlockref10_Doms.l0 k ss rc (IL out) (D : Int)) (IL o) ∧ RI2 ss ss.length 0 o
  | 0, D, out, hD, h => by
    obtain rfl : D = ss.length := by omega
    exact ⟨out, Ev.step (f := fun _ => some (IL out)) (fun k => by
      simp only [interlockref10_Doms.l0]
      rw [if_neg (by omega)]) (Ev.now _), h⟩
  | d + 1, D, out, hD, h => by
    obtain ⟨l, l1, l2⟩ := without_ev hg.n64 hg.rows (D : Int)
    obtain ⟨o, o1, o2⟩ := rdoms_l1 hg hrl hrc D (by omega) l l2 (fun out' h' => rdoms_l0 d (D + 1) out' (by omega) h') ss.length 0 out (by omega) h
    exact ⟨o, Ev.step (f := fun k => _) (fun k => by
      simp only [interlockref10_Doms.l0]
      rw [if_pos (show (D : Int) < (ss.length : Int) by omega)]) (Ev.bind l1 o1), o2⟩
end
theorem rdoms_ev {ss : List (List Int)} (hg : Gok ss) : ∃ o : List Nat, Ev (fun k => interlockref10_Doms.f k ss) (IL o) ∧ o.length = ss.length ∧ (∀ j, fn o j < U) ∧ ∀ i, i < ss.length → ∀ d, d < 64 → ((fn o i).testBit d = true ↔ Dom ss d i) := by
  have hn := hg.n64
  obtain ⟨rc, r1, r2, r3⟩ := rreach_ev hg
  obtain ⟨o, o1, o2⟩ := rdoms_l0 hg r2 r3 ss.length 0 (List.replicate ss.length 0) (by omega) (by
    have h0 : ∀ q, fn (List.replicate ss.length 0) q = 0 := fun q => by
      unfold fn
      rw [List.getD_eq_getElem?_getD, List.getElem?_replicate]; split <;> rfl
    refine ⟨List.length_replicate, fun q => by rw [h0]; decide, fun q hq e he => ?_⟩
    rw [h0, Nat.zero_testBit]
    constructor
    · intro c; cases c
    · rintro ⟨a, _⟩; omega)
  refine ⟨o, ?_, o2.len, o2.lt, fun i hi d hd => ?_⟩
  · unfold interlockref10_Doms.f
    refine ev_neg (by omega) (Ev.bind r1 (ev_pos (by omega) (ev_pos (by rw [Int.toNat_natCast]; omega) ?_)))
    rw [Int.toNat_natCast]
    have e : List.replicate ss.length (0 : Int) = IL (List.replicate ss.length 0) := by unfold IL; rw [List.map_replicate]; rfl
    rw [e]
    exact o1
  · rw [o2.bit i hi d hd]
    exact ⟨fun c => c.2, fun c => ⟨.inl c.lt, c⟩⟩
open Classical in
theorem loops_has (ss : List (List Int)) : ∀ (d h0 h : Nat), h0 ≤ h → h < h0 + d → Head ss h → (⟨(h : Int), bodyL ss h⟩ : S35) ∈ loopsFrom ss d h0
  | 0, h0, h, a, b, _ => by omega
  | d + 1, h0, h, a, b, k => by
    simp only [loopsFrom]
    rw [List.mem_append]
    by_cases e : h = h0
    · subst e
      exact .inl (by rw [if_pos k]; exact List.mem_singleton.2 rfl)
    · exact .inr (loops_has ss d (h0 + 1) h (by omega) (by omega) k)
theorem rdT (L : List S35) (i : Nat) (hi : i < L.length) : rd_T35 L (i : Int) ∈ L := by
  unfold rd_T35
  rw [Int.toNat_natCast, List.getD_eq_getElem?_getD, List.getElem?_eq_getElem hi]
  exact List.getElem_mem hi
theorem rdT_get (L : List S35) (M : S35) (h : M ∈ L) : ∃ i, i < L.length ∧ rd_T35 L (i : Int) = M := by
  obtain ⟨i, hi, rfl⟩ := List.mem_iff_getElem.1 h
  refine ⟨i, hi, ?_⟩
  unfold rd_T35
  rw [Int.toNat_natCast, List.getD_eq_getElem?_getD, List.getElem?_eq_getElem hi]; rfl
end Go.Proofs.YtbnkeddnibjncaaDoor.Th
namespace Go.Proofs.YtbnkeddnibjncaaDoor.Th
set_option linter.unusedVariables false
set_option linter.unusedSectionVars false
open Go Go.RowKit Go.Proofs.YtbnkeddnibjncaaDoor.P Go.Proofs.YtbnkeddnibjncaaDoor.Opn Go.Proofs.YtbnkeddnibjncaaDoorW.PrintWords Go.Proofs.YtbnkeddnibjncaaDoorW.PrintLast Go.Proofs.YtbnkeddnibjncaaDoorW.PrintMore
/-! The document's loops. -/
def OB (b : List Bool) : List Int := b.map (fun x => if x = true then 1 else 0)
theorem OB_len (b : List Bool) : (OB b).length = b.length := List.length_map _
theorem OB_rd (b : List Bool) (i : Nat) : rd (OB b) (i : Int) = if b.getD i false = true then 1 else 0 := by
  rw [rd_nat]
  unfold OB
  rw [List.getD_eq_getElem?_getD, List.getD_eq_getElem?_getD, List.getElem?_map]
  cases b[i]? <;> rfl
theorem OB_set (b : List Bool) (i : Nat) : (OB b).set i 1 = OB (b.set i true) := by unfold OB; rw [List.map_set]; rfl
structure MI (ss : List (List Int)) (h : Nat) (b : List Bool) : Prop where
  len : b.length = ss.length
  sound : ∀ x, b.getD x false = true → Head ss h ∧ InB ss h x
structure MS (ss : List (List Int)) (h : Nat) (b : List Bool) : Prop where
  inv : MI ss h b
  src : ∀ t, Back ss h t → b.getD t false = true ∧ b.getD h false = true
def CM (ss : List (List Int)) (h : Nat) (b : List Bool) (i j : Nat) : Prop := Rch ss i → ∀ t, j ≤ t → t < (ss.getD i []).length → ∀ y : Nat, (ss.getD i []).getD t 0 = (y : Int) → y < ss.length → y ≠ h → b.getD y false = true → b.getD i false = true
def MG (ss : List (List Int)) (h : Nat) (b : List Bool) : Prop := b.length = ss.length ∧ ∀ x, (b.getD x false = true ↔ Head ss h ∧ InB ss h x)
theorem MS.done {ss : List (List Int)} {h : Nat} {b : List Bool} (k : MS ss h b) (hc : ∀ i, i < ss.length → CM ss h b i 0) : MG ss h b := by
  have key : ∀ x, Head ss h → InB ss h x → b.getD x false = true := by
    intro x hh hx
    obtain ⟨t0, ht0⟩ := hh
    induction hx with
    | head => exact (k.src t0 ht0).2
    | src b => exact (k.src _ b).1
    | @pred x y _ hne e hr ih =>
      obtain ⟨t, ht, hj⟩ := List.mem_iff_getElem.1 e.2.2
      exact hc x e.1 hr t (Nat.zero_le _) ht y (by rw [List.getD_eq_getElem?_getD, List.getElem?_eq_getElem ht]; exact hj) e.2.1 hne ih
  exact ⟨k.inv.len, fun x => ⟨k.inv.sound x, fun c => key x c.1 c.2⟩⟩
theorem set_keep (b : List Bool) (i j : Nat) (h : b.getD j false = true) : (b.set i true).getD j false = true := by
  rw [getD_setB]
  split
  · rfl
  · exact h
theorem set_get (b : List Bool) (i : Nat) (hi : i < b.length) : (b.set i true).getD i false = true := by rw [getD_setB, if_pos ⟨rfl, hi⟩]
theorem set_src {b : List Bool} {i j : Nat} (h : (b.set i true).getD j false = true) : j = i ∨ b.getD j false = true := by
  rw [getD_setB] at h
  split at h
  · rename_i c; exact .inl c.1.symm
  · exact .inr h
section
variable {ss : List (List Int)} (hg : Gok ss) {rc : List Bool} (hrl : rc.length = ss.length) (hrc : ∀ i, i < ss.length → (rc.getD i false = true ↔ Rch ss i)) {o : List Nat} (hol : o.length = ss.length) (ho : ∀ j, fn o j < U) (hd : ∀ i, i < ss.length → ∀ d, d < 64 → ((fn o i).testBit d = true ↔ Dom ss d i))
/-! The second part: till nothing changes. -/
include hg hrl hrc in
theorem mb_l4 (h : Nat) (i : Nat) (hi : i < ss.length) : ∀ (d j : Nat) (b : List Bool) (e : Bool), j + d = (ss.getD i []).length → MS ss h b →
    (∀ b' e', MS ss h b' → Rel b e b' e' → (e' = false → CM ss h b i j) → ∃ r, Ev (fun k => interlockref12_body.l3 k ss rc (h : Int) (OB b') e' ((i + 1 : Nat) : Int)) (OB r) ∧ MG ss h r) →
    ∃ r, Ev (fun k => interlockref12_body.l4 k ss rc (h : Int) (OB b) e (i : Int) (j : Int)) (OB r) ∧ MG ss h r
  | 0, j, b, e, hj, hm, cont => by
    have hn := hg.n64
    obtain ⟨r, r1, r2⟩ := cont b e hm (Rel.refl _ _) (fun _ _ t ht1 ht2 => by omega)
    refine ⟨r, ?_, r2⟩
    refine Ev.step (f := fun k => _) (fun k => by
      simp only [interlockref12_body.l4]
      rw [show rd_L1 ss (i : Int) = ss.getD i [] by unfold rd_L1; rw [Int.toNat_natCast], if_pos (show 0 ≤ (i : Int) by omega), if_pos (show (i : Int) < (ss.length : Int) by omega), if_neg (show ¬ (j : Int) < ((ss.getD i []).length : Int) by omega)]) ?_
    exact Ev.step (f := fun k => _) (fun k => by
      simp only [interlockref12_body.j5]
      rw [if_neg (by decide), up i (by omega)]) r1
  | d + 1, j, b, e, hj, hm, cont => by
    have hn := hg.n64
    have hrow := hg.rows i hi
    have hbl := hm.inv.len
    have hol2 : (OB b).length = ss.length := by rw [OB_len, hbl]
    have hjl : j < (ss.getD i []).length := by omega
    have hstop : (rc.getD i false = true → b.getD i false = true) → ∃ r, Ev (fun k => interlockref12_body.j5 k ss rc (h : Int) (OB b) e (i : Int) (j : Int) false) (OB r) ∧ MG ss h r := fun hc => by
      obtain ⟨r, r1, r2⟩ := cont b e hm (Rel.refl _ _) (fun _ hr t _ _ y _ _ _ _ => hc ((hrc i hi).2 hr))
      exact ⟨r, Ev.step (f := fun k => _) (fun k => by
        simp only [interlockref12_body.j5]
        rw [if_neg (by decide), up i (by omega)]) r1, r2⟩
    have hhead : ∀ r, Ev (fun k => if rc.getD i false = true then interlockref12_body.j5 k ss rc (h : Int) (OB b) e (i : Int) (j : Int) ((if b.getD i false = true then (1 : Int) else 0) == 0) else interlockref12_body.j5 k ss rc (h : Int) (OB b) e (i : Int) (j : Int) false) r → Ev (fun k => interlockref12_body.l4 k ss rc (h : Int) (OB b) e (i : Int) (j : Int)) r := fun r hr =>
      Ev.step (f := fun k => _) (fun k => by
        simp only [interlockref12_body.l4]
        rw [show rd_L1 ss (i : Int) = ss.getD i [] by unfold rd_L1; rw [Int.toNat_natCast], if_pos (show 0 ≤ (i : Int) by omega), if_pos (show (i : Int) < (ss.length : Int) by omega), if_pos (show (j : Int) < ((ss.getD i []).length : Int) by omega), if_pos (show (i : Int) < (rc.length : Int) by omega), rdB, if_pos (show (i : Int) < ((OB b).length : Int) by omega), OB_rd]) hr
    by_cases hr : rc.getD i false = true
    · by_cases hb : b.getD i false = true
      · obtain ⟨r, r1, r2⟩ := hstop (fun _ => hb)
        refine ⟨r, hhead _ (ev_pos hr ?_), r2⟩
        rw [if_pos hb]
        exact r1
      · have hstep : ∀ r, Ev (fun k => if (ss.getD i []).getD j 0 ≥ 0 then (if (ss.getD i []).getD j 0 < (ss.length : Int) then (if (ss.getD i []).getD j 0 = (h : Int) then interlockref12_body.l4 k ss rc (h : Int) (OB b) e (i : Int) ((j + 1 : Nat) : Int) else (if 0 ≤ (ss.getD i []).getD j 0 then (if (ss.getD i []).getD j 0 < ((OB b).length : Int) then (if rd (OB b) ((ss.getD i []).getD j 0) = 1 then interlockref12_body.l4 k ss rc (h : Int) (OB (b.set i true)) true (i : Int) ((j + 1 : Nat) : Int) else interlockref12_body.l4 k ss rc (h : Int) (OB b) e (i : Int) ((j + 1 : Nat) : Int)) else none) else none)) else interlockref12_body.l4 k ss rc (h : Int) (OB b) e (i : Int) ((j + 1 : Nat) : Int)) else interlockref12_body.l4 k ss rc (h : Int) (OB b) e (i : Int) ((j + 1 : Nat) : Int)) r → Ev (fun k => interlockref12_body.l4 k ss rc (h : Int) (OB b) e (i : Int) (j : Int)) r := fun r hr2 => by
          refine hhead r (ev_pos hr ?_)
          rw [if_neg hb]
          refine Ev.step (f := fun k => _) (fun k => by
            simp only [interlockref12_body.j5]
            rw [show rd_L1 ss (i : Int) = ss.getD i [] by unfold rd_L1; rw [Int.toNat_natCast], if_pos (by decide), if_pos (show 0 ≤ (i : Int) by omega), if_pos (show (i : Int) < (ss.length : Int) by omega), if_pos (show 0 ≤ (j : Int) by omega), if_pos (show (j : Int) < ((ss.getD i []).length : Int) by omega), rd_nat, up j (by omega), Int.toNat_natCast, OB_set, if_pos (show (i : Int) < ((OB b).length : Int) by omega)]) hr2
        have hskip : (∀ y : Nat, (ss.getD i []).getD j 0 = (y : Int) → y < ss.length → y ≠ h → b.getD y false = true → False) → ∃ r, Ev (fun k => interlockref12_body.l4 k ss rc (h : Int) (OB b) e (i : Int) ((j + 1 : Nat) : Int)) (OB r) ∧ MG ss h r := fun hx =>
          mb_l4 h i hi d (j + 1) b e (by omega) hm (fun b' e' h' hrel hc => cont b' e' h' hrel (fun he hri t ht1 ht2 y hy1 hy2 hy3 hy4 => by
            by_cases et : t = j
            · subst et; exact (hx y hy1 hy2 hy3 hy4).elim
            · exact hc he hri t (by omega) ht2 y hy1 hy2 hy3 hy4))
        by_cases h1 : (ss.getD i []).getD j 0 ≥ 0
        · by_cases h2 : (ss.getD i []).getD j 0 < (ss.length : Int)
          · by_cases h3 : (ss.getD i []).getD j 0 = (h : Int)
            · obtain ⟨r, r1, r2⟩ := hskip (fun y hy _ hne _ => by omega)
              exact ⟨r, hstep _ (ev_pos h1 (ev_pos h2 (ev_pos h3 r1))), r2⟩
            · obtain ⟨y, hy⟩ : ∃ y : Nat, (ss.getD i []).getD j 0 = (y : Int) := ⟨((ss.getD i []).getD j 0).toNat, by omega⟩
              have hrdy : rd (OB b) ((ss.getD i []).getD j 0) = if b.getD y false = true then 1 else 0 := by rw [hy, OB_rd]
              by_cases h4 : b.getD y false = true
              · have hf : b.getD i false = false := Bool.eq_false_iff.2 hb
                have hc := cntF_set b i (by omega) hf
                obtain ⟨hh, hyb⟩ := hm.inv.sound y h4
                have hri := (hrc i hi).1 hr
                have hmem : (y : Int) ∈ ss.getD i [] := by
                  rw [← hy, List.getD_eq_getElem?_getD (l := ss.getD i []), List.getElem?_eq_getElem hjl]
                  exact List.getElem_mem hjl
                have hib : InB ss h i := .pred hyb (fun c => h3 (by rw [hy, c])) ⟨hi, by omega, hmem⟩ hri
                have hms : MS ss h (b.set i true) := ⟨⟨by rw [List.length_set]; exact hbl, fun x hx => by
                  rcases set_src hx with c | c
                  · rw [c]; exact ⟨hh, hib⟩
                  · exact hm.inv.sound x c⟩, fun t ht => ⟨set_keep b i t (hm.src t ht).1, set_keep b i h (hm.src t ht).2⟩⟩
                obtain ⟨r, r1, r2⟩ := mb_l4 h i hi d (j + 1) (b.set i true) true (by omega) hms (fun b' e' h' hrel hcl => cont b' e' h' ⟨by have := hrel.le; omega, fun he => (by have := (hrel.same he).1; cases this), fun he => .inr (by have := hrel.le; omega)⟩ (fun he => (by have := (hrel.same he).1; cases this)))
                exact ⟨r, hstep _ (ev_pos h1 (ev_pos h2 (ev_neg h3 (ev_pos h1 (ev_pos (by omega) (ev_pos (by rw [hrdy, if_pos h4]) r1)))))), r2⟩
              · obtain ⟨r, r1, r2⟩ := hskip (fun z hz _ _ hzb => h4 (by
                  have : z = y := by omega
                  rw [← this]; exact hzb))
                exact ⟨r, hstep _ (ev_pos h1 (ev_pos h2 (ev_neg h3 (ev_pos h1 (ev_pos (by omega) (ev_neg (by rw [hrdy, if_neg h4]; decide) r1)))))), r2⟩
          · obtain ⟨r, r1, r2⟩ := hskip (fun y hy hyl _ _ => by omega)
            exact ⟨r, hstep _ (ev_pos h1 (ev_neg h2 r1)), r2⟩
        · obtain ⟨r, r1, r2⟩ := hskip (fun y hy _ _ _ => by omega)
          exact ⟨r, hstep _ (ev_neg h1 r1), r2⟩
    · obtain ⟨r, r1, r2⟩ := hstop (fun c => absurd c hr)
      exact ⟨r, hhead _ (ev_neg hr r1), r2⟩
include hg hrl hrc in
theorem mb_l3 (h : Nat) : ∀ (d i : Nat) (b : List Bool) (e : Bool), i + d = ss.length → MS ss h b →
    (∀ b' e', MS ss h b' → Rel b e b' e' → (e' = false → ∀ q, i ≤ q → q < ss.length → CM ss h b q 0) → ∃ r, Ev (fun k => interlockref12_body.l2 k ss rc (h : Int) (OB b') e') (OB r) ∧ MG ss h r) →
    ∃ r, Ev (fun k => interlockref12_body.l3 k ss rc (h : Int) (OB b) e (i : Int)) (OB r) ∧ MG ss h r
  | 0, i, b, e, hi, hm, cont => by
    obtain ⟨r, r1, r2⟩ := cont b e hm (Rel.refl _ _) (fun _ q q1 q2 => by omega)
    exact ⟨r, Ev.step (f := fun k => _) (fun k => by
      simp only [interlockref12_body.l3]
      rw [if_neg (show ¬ (i : Int) < (ss.length : Int) by omega)]) r1, r2⟩
  | d + 1, i, b, e, hi, hm, cont => by
    have hlt : i < ss.length := by omega
    obtain ⟨r, r1, r2⟩ := mb_l4 hg hrl hrc h i hlt (ss.getD i []).length 0 b e (by omega) hm (fun out1 e1 h1 hr1 hc1 => mb_l3 h d (i + 1) out1 e1 (by omega) h1 (fun out2 e2 h2 hr2 hc2 => cont out2 e2 h2 ⟨Nat.le_trans hr2.le hr1.le, fun he => by
        obtain ⟨a, b⟩ := hr2.same he
        obtain ⟨c, dd⟩ := hr1.same a
        exact ⟨c, b.trans dd⟩, fun he => by
        rcases hr2.less he with c | c
        · rcases hr1.less c with c2 | c2
          · exact .inl c2
          · exact .inr (Nat.lt_of_le_of_lt hr2.le c2)
        · exact .inr (Nat.lt_of_lt_of_le c hr1.le)⟩ (fun he q q1 q2 => by
        obtain ⟨a, b⟩ := hr2.same he
        obtain ⟨c, dd⟩ := hr1.same a
        by_cases eq : q = i
        · subst eq; exact hc1 a
        · have := hc2 he q (by omega) q2
          rwa [dd] at this)))
    exact ⟨r, Ev.step (f := fun k => _) (fun k => by
      simp only [interlockref12_body.l3]
      rw [if_pos (show (i : Int) < (ss.length : Int) by omega)]; rfl) r1, r2⟩
include hg hrl hrc in
theorem mb_l2 (h : Nat) : ∀ (m : Nat) (b : List Bool), cntF b ≤ m → MS ss h b → ∃ r, Ev (fun k => interlockref12_body.l2 k ss rc (h : Int) (OB b) true) (OB r) ∧ MG ss h r := by
  intro m
  induction m with
  | zero =>
    intro b hm hs
    obtain ⟨r, r1, r2⟩ := mb_l3 hg hrl hrc h ss.length 0 b false (by omega) hs (fun b' e' h' hr hc => by
      cases e' with
      | true =>
        rcases hr.less rfl with c | c
        · cases c
        · omega
      | false =>
        obtain ⟨_, rfl⟩ := hr.same rfl
        exact ⟨b', Ev.step (f := fun _ => some (OB b')) (fun k => by simp only [interlockref12_body.l2]; rw [if_neg (by decide)]) (Ev.now _), h'.done (fun i hi => hc rfl i (Nat.zero_le _) hi)⟩)
    exact ⟨r, Ev.step (f := fun k => _) (fun k => by simp only [interlockref12_body.l2]; rw [if_pos trivial]; rfl) r1, r2⟩
  | succ m ih =>
    intro b hm hs
    obtain ⟨r, r1, r2⟩ := mb_l3 hg hrl hrc h ss.length 0 b false (by omega) hs (fun b' e' h' hr hc => by
      cases e' with
      | true =>
        rcases hr.less rfl with c | c
        · cases c
        · exact ih b' (by omega) h'
      | false =>
        obtain ⟨_, rfl⟩ := hr.same rfl
        exact ⟨b', Ev.step (f := fun _ => some (OB b')) (fun k => by simp only [interlockref12_body.l2]; rw [if_neg (by decide)]) (Ev.now _), h'.done (fun i hi => hc rfl i (Nat.zero_le _) hi)⟩)
    exact ⟨r, Ev.step (f := fun k => _) (fun k => by simp only [interlockref12_body.l2]; rw [if_pos trivial]; rfl) r1, r2⟩
/-! The first part: what leads back. -/
structure MP (ss : List (List Int)) (h : Nat) (b : List Bool) (i j : Nat) : Prop where
  inv : MI ss h b
  done : ∀ t, t < i → Back ss h t → b.getD t false = true ∧ b.getD h false = true
  row : ∀ t, t < j → t < (ss.getD i []).length → (ss.getD i []).getD t 0 = (h : Int) → Rch ss i → Dom ss h i → b.getD i false = true ∧ b.getD h false = true
include hg hrl hrc hol ho hd in
theorem mb_l1 (h : Nat) (hh : h < ss.length) (i : Nat) (hi : i < ss.length) (cont : ∀ b, MP ss h b (i + 1) 0 → ∃ r, Ev (fun k => interlockref12_body.l0 k ss (IL o) rc (h : Int) (OB b) ((i + 1 : Nat) : Int)) (OB r) ∧ MG ss h r) : ∀ (d j : Nat) (b : List Bool), j + d = (ss.getD i []).length → MP ss h b i j →
    ∃ r, Ev (fun k => interlockref12_body.l1 k ss (IL o) rc (h : Int) (OB b) (i : Int) (j : Int)) (OB r) ∧ MG ss h r
  | 0, j, b, hj, hm => by
    have hn := hg.n64
    obtain ⟨r, r1, r2⟩ := cont b ⟨hm.inv, fun t ht hb => by
      by_cases e : t = i
      · subst e
        obtain ⟨q, hq, he⟩ := List.mem_iff_getElem.1 hb.1.2.2
        exact hm.row q (by omega) hq (by rw [List.getD_eq_getElem?_getD, List.getElem?_eq_getElem hq]; exact he) hb.2.1 hb.2
      · exact hm.done t (by omega) hb, fun t ht => by omega⟩
    exact ⟨r, Ev.step (f := fun k => _) (fun k => by
      simp only [interlockref12_body.l1]
      rw [show rd_L1 ss (i : Int) = ss.getD i [] by unfold rd_L1; rw [Int.toNat_natCast], if_pos (show 0 ≤ (i : Int) by omega), if_pos (show (i : Int) < (ss.length : Int) by omega), if_neg (show ¬ (j : Int) < ((ss.getD i []).length : Int) by omega), up i (by omega)]) r1, r2⟩
  | d + 1, j, b, hj, hm => by
    have hn := hg.n64
    have hrow := hg.rows i hi
    have hbl := hm.inv.len
    have hol2 : (OB b).length = ss.length := by rw [OB_len, hbl]
    have hil : (IL o).length = ss.length := by rw [IL_len, hol]
    have hjl : j < (ss.getD i []).length := by omega
    have hstep : ∀ r, Ev (fun k => if rc.getD i false = true then (if (ss.getD i []).getD j 0 = (h : Int) then ((interlockref01_Has.f k (fn o i : Int) (h : Int)).bind fun t => (if t = true then interlockref12_body.l1 k ss (IL o) rc (h : Int) (OB ((b.set i true).set h true)) (i : Int) ((j + 1 : Nat) : Int) else interlockref12_body.l1 k ss (IL o) rc (h : Int) (OB b) (i : Int) ((j + 1 : Nat) : Int))) else interlockref12_body.l1 k ss (IL o) rc (h : Int) (OB b) (i : Int) ((j + 1 : Nat) : Int)) else interlockref12_body.l1 k ss (IL o) rc (h : Int) (OB b) (i : Int) ((j + 1 : Nat) : Int)) r → Ev (fun k => interlockref12_body.l1 k ss (IL o) rc (h : Int) (OB b) (i : Int) (j : Int)) r := fun r hr =>
      Ev.step (f := fun k => _) (fun k => by
        simp only [interlockref12_body.l1]
        rw [show rd_L1 ss (i : Int) = ss.getD i [] by unfold rd_L1; rw [Int.toNat_natCast], if_pos (show 0 ≤ (i : Int) by omega), if_pos (show (i : Int) < (ss.length : Int) by omega), if_pos (show (j : Int) < ((ss.getD i []).length : Int) by omega), if_pos (show (i : Int) < (rc.length : Int) by omega), rdB, if_pos (show 0 ≤ (j : Int) by omega), rd_nat, if_pos (show (i : Int) < ((IL o).length : Int) by omega), IL_rd, if_pos (show (i : Int) < ((OB b).length : Int) by omega), if_pos (show 0 ≤ (h : Int) by omega), if_pos (show (h : Int) < ((OB b).length : Int) by omega), up j (by omega), Int.toNat_natCast, Int.toNat_natCast, OB_set, OB_set]) hr
    have hskip : ((ss.getD i []).getD j 0 = (h : Int) → Rch ss i → Dom ss h i → False) → ∃ r, Ev (fun k => interlockref12_body.l1 k ss (IL o) rc (h : Int) (OB b) (i : Int) ((j + 1 : Nat) : Int)) (OB r) ∧ MG ss h r := fun hx =>
      mb_l1 h hh i hi cont d (j + 1) b (by omega) ⟨hm.inv, hm.done, fun t ht htl he hr hdm => by
        by_cases et : t = j
        · subst et; exact (hx he hr hdm).elim
        · exact hm.row t (by omega) htl he hr hdm⟩
    by_cases hr : rc.getD i false = true
    · by_cases he : (ss.getD i []).getD j 0 = (h : Int)
      · have h64 : h < 64 := by omega
        have hhas := rhas_ev (fn o i) (ho i) (h : Int)
        rw [decide_eq_true (by omega : 0 ≤ (h : Int) ∧ (h : Int) < 64), Bool.true_and, Int.toNat_natCast] at hhas
        by_cases hb : (fn o i).testBit h = true
        · have hdm := (hd i hi h h64).1 hb
          have hmem : (h : Int) ∈ ss.getD i [] := by
            rw [← he, List.getD_eq_getElem?_getD (l := ss.getD i []), List.getElem?_eq_getElem hjl]
            exact List.getElem_mem hjl
          have hback : Back ss h i := ⟨⟨hi, hh, hmem⟩, hdm⟩
          have ki : ((b.set i true).set h true).getD i false = true := set_keep _ _ _ (set_get b i (by omega))
          have kh : ((b.set i true).set h true).getD h false = true := set_get _ _ (by rw [List.length_set]; omega)
          obtain ⟨r, r1, r2⟩ := mb_l1 h hh i hi cont d (j + 1) ((b.set i true).set h true) (by omega) ⟨⟨by rw [List.length_set, List.length_set]; exact hbl, fun x hx => by
            rcases set_src hx with c | c
            · rw [c]; exact ⟨⟨i, hback⟩, .head⟩
            · rcases set_src c with c | c
              · rw [c]; exact ⟨⟨i, hback⟩, .src hback⟩
              · exact hm.inv.sound x c⟩, fun t ht hb2 => ⟨set_keep _ _ _ (set_keep _ _ _ (hm.done t ht hb2).1), kh⟩, fun t _ _ _ _ _ => ⟨ki, kh⟩⟩
          rw [hb] at hhas
          exact ⟨r, hstep _ (ev_pos hr (ev_pos he (Ev.bind hhas (ev_pos rfl r1)))), r2⟩
        · obtain ⟨r, r1, r2⟩ := hskip (fun _ _ hdm => hb ((hd i hi h h64).2 hdm))
          rw [Bool.eq_false_iff.2 hb] at hhas
          exact ⟨r, hstep _ (ev_pos hr (ev_pos he (Ev.bind hhas (ev_neg (by decide) r1)))), r2⟩
      · obtain ⟨r, r1, r2⟩ := hskip (fun c _ _ => he c)
        exact ⟨r, hstep _ (ev_pos hr (ev_neg he r1)), r2⟩
    · obtain ⟨r, r1, r2⟩ := hskip (fun _ c _ => hr ((hrc i hi).2 c))
      exact ⟨r, hstep _ (ev_neg hr r1), r2⟩
include hg hrl hrc hol ho hd in
theorem mb_l0 (h : Nat) (hh : h < ss.length) : ∀ (d i : Nat) (b : List Bool), i + d = ss.length → MP ss h b i 0 →
    ∃ r, Ev (fun k => interlockref12_body.l0 k ss (IL o) rc (h : Int) (OB b) (i : Int)) (OB r) ∧ MG ss h r
  | 0, i, b, hi, hm => by
    obtain ⟨r, r1, r2⟩ := mb_l2 hg hrl hrc h _ b (Nat.le_refl _) ⟨hm.inv, fun t ht => hm.done t (by have := ht.1.1; omega) ht⟩
    exact ⟨r, Ev.step (f := fun k => _) (fun k => by
      simp only [interlockref12_body.l0]
      rw [if_neg (show ¬ (i : Int) < (ss.length : Int) by omega)]) r1, r2⟩
  | d + 1, i, b, hi, hm => by
    obtain ⟨r, r1, r2⟩ := mb_l1 hg hrl hrc hol ho hd h hh i (by omega) (fun b' h' => mb_l0 h hh d (i + 1) b' (by omega) h') (ss.getD i []).length 0 b (by omega) hm
    exact ⟨r, Ev.step (f := fun k => _) (fun k => by
      simp only [interlockref12_body.l0]
      rw [if_pos (show (i : Int) < (ss.length : Int) by omega)]; rfl) r1, r2⟩
include hg hrl hrc hol ho hd in
theorem mb_ev (h : Nat) (hh : h < ss.length) : ∃ r, Ev (fun k => interlockref12_body.f k ss (IL o) rc (h : Int)) (OB r) ∧ MG ss h r := by
  have hn := hg.n64
  have h0 : ∀ i, (List.replicate ss.length false).getD i false = false := fun i => by
    rw [List.getD_eq_getElem?_getD, List.getElem?_replicate]; split <;> rfl
  obtain ⟨r, r1, r2⟩ := mb_l0 hg hrl hrc hol ho hd h hh ss.length 0 (List.replicate ss.length false) (by omega) ⟨⟨List.length_replicate, fun x hx => (by rw [h0 x] at hx; cases hx)⟩, fun t ht => by omega, fun t ht => by omega⟩
  refine ⟨r, ?_, r2⟩
  unfold interlockref12_body.f
  refine ev_pos (by omega) (ev_pos (by rw [Int.toNat_natCast]; omega) ?_)
  rw [Int.toNat_natCast]
  have e : List.replicate ss.length (0 : Int) = OB (List.replicate ss.length false) := by unfold OB; rw [List.map_replicate]; rfl
  rw [e]
  exact r1
theorem coll (b : List Bool) : ∀ (d i : Nat), i + d = b.length → ((List.range' i d).filter fun x => b.getD x false).map (fun x : Nat => (x : Int)) = if d = 0 then [] else (if b.getD i false = true then [(i : Int)] else []) ++ ((List.range' (i + 1) (d - 1)).filter fun x => b.getD x false).map (fun x : Nat => (x : Int))
  | 0, i, _ => rfl
  | d + 1, i, _ => by
    rw [if_neg (by omega), List.range'_succ, List.filter_cons, Nat.add_sub_cancel]
    split
    · rfl
    · rfl
open Classical in
theorem bodyL_of {h : Nat} {b : List Bool} (hb : MG ss h b) (hh : Head ss h) : ((List.range' 0 b.length).filter fun x => b.getD x false).map (fun x : Nat => (x : Int)) = bodyL ss h := by
  unfold bodyL
  congr 1
  rw [hb.1, ← List.range_eq_range']
  refine List.filter_congr (fun x _ => ?_)
  rw [Bool.eq_iff_iff, decide_eq_true_iff, hb.2 x]
  exact ⟨fun c => c.2, fun c => ⟨hh, c⟩⟩
end
end Go.Proofs.YtbnkeddnibjncaaDoor.Th
namespace Go.Proofs.YtbnkeddnibjncaaDoor.Th
set_option linter.unusedVariables false
open Go Go.RowKit Go.Proofs.YtbnkeddnibjncaaDoor.P Go.Proofs.YtbnkeddnibjncaaDoor.Opn Go.Proofs.YtbnkeddnibjncaaDoorW.PrintWords Go.Proofs.YtbnkeddnibjncaaDoorW.PrintLast Go.Proofs.YtbnkeddnibjncaaDoorW.PrintMore
/-- It comes to some r of which R holds. -/
def Gv {α : Type} (R : α → Prop) (g : Nat → Option α) : Prop := ∃ r, Ev g r ∧ R r
section
variable {α β : Type} {R : α → Prop}
theorem Gv.some_ {r : α} (h : R r) : Gv R (fun _ => some r) := ⟨r, Ev.now r, h⟩
theorem Gv.step {g f : Nat → Option α} (h : ∀ k, g (k + 1) = f k) (hf : Gv R f) : Gv R g := by
  obtain ⟨r, h1, h2⟩ := hf
  exact ⟨r, Ev.step h h1, h2⟩
theorem Gv.congr {g f : Nat → Option α} (h : ∀ k, g k = f k) (hf : Gv R f) : Gv R g := by
  obtain ⟨r, h1, h2⟩ := hf
  exact ⟨r, Ev.congr h h1, h2⟩
theorem Gv.ite {c : Prop} [Decidable c] {a b : Nat → Option α} (ha : c → Gv R a) (hb : ¬ c → Gv R b) : Gv R (fun k => if c then a k else b k) := by
  by_cases h : c
  · exact Gv.congr (fun k => if_pos h) (ha h)
  · exact Gv.congr (fun k => if_neg h) (hb h)
theorem Gv.pos {c : Prop} [Decidable c] {a b : Nat → Option α} (h : c) (ha : Gv R a) : Gv R (fun k => if c then a k else b k) := Gv.congr (fun _ => if_pos h) ha
theorem Gv.neg {c : Prop} [Decidable c] {a b : Nat → Option α} (h : ¬ c) (ha : Gv R b) : Gv R (fun k => if c then a k else b k) := Gv.congr (fun _ => if_neg h) ha
theorem Gv.bind {S : β → Prop} {g : Nat → Option β} {f : Nat → β → Option α} (hg : Gv S g) (hf : ∀ b, S b → Gv R (fun k => f k b)) : Gv R (fun k => (g k).bind (f k)) := by
  obtain ⟨b, h1, h2⟩ := hg
  obtain ⟨r, h3, h4⟩ := hf b h2
  exact ⟨r, Ev.bind h1 h3, h4⟩
theorem Gv.now {y : β} {f : Nat → β → Option α} (hf : Gv R (fun k => f k y)) : Gv R (fun k => (some y).bind (f k)) := hf
end
abbrev Q4 := Int × Int × Int × Int
/-- Here nothing is asked of an instruction. -/
def Good (t len : Nat) (x : S59) : Prop := True
theorem Good.more {t len t' len' : Nat} {x : S59} (h : Good t len x) (ht : t ≤ t') (hl : len ≤ len') : Good t' len' x := trivial
def opsL : List Int := [7, 8, 9, 1, 3, 7, 8, 9, 13, 14, 15, 16, 17, 18, 19, 20, 21, 22, 23, 24, 25, 26, 27, 11, 10, 0, 2, 4, 5, 6, 7, 8, 13, 14, 9, 8]
theorem opsL_ok : ∀ x ∈ opsL, 0 ≤ x ∧ x ≤ 27 ∧ x ≠ 12 := by decide
theorem rd_opsL (i : Int) (h0 : 0 ≤ i) (h1 : i < 36) : 0 ≤ rd opsL i ∧ rd opsL i ≤ 27 ∧ rd opsL i ≠ 12 := by
  refine opsL_ok _ ?_
  show opsL.getD i.toNat 0 ∈ opsL
  have : i.toNat < opsL.length := by show i.toNat < 36; omega
  rw [List.getD_eq_getElem?_getD, List.getElem?_eq_getElem this]
  exact List.getElem_mem this
set_option maxRecDepth 100000 in
theorem ins_good (a b : Int) (at_ n t : Nat) (ha0 : 0 ≤ a) (ha : a ≤ 255) (hb0 : 0 ≤ b) (_hb : b ≤ 255) (hn : at_ < n) (hn2 : n ≤ 100) : Gv (fun r : Q4 => Good t n ⟨r.1, r.2.1, r.2.2.1, r.2.2.2⟩) (fun k => interlocklaw02_Ins.f k a b (at_ : Int) (n : Int)) := by
  have e : ((opsL.length : Nat) : Int) = 36 := rfl
  have hq : 0 ≤ Int.tmod (wrap64 a) 36 ∧ Int.tmod (wrap64 a) 36 < 36 := by
    rw [w64 (by omega) (by omega), Int.tmod_eq_emod_of_nonneg ha0]; omega
  unfold interlocklaw02_Ins.f
  refine Gv.now (y := opsL) ?_
  refine Gv.neg (by rw [e]; decide) ?_
  rw [e]
  generalize Int.tmod (wrap64 a) 36 = q at hq ⊢
  refine Gv.pos hq.1 (Gv.pos hq.2 ?_)
  have hr := rd_opsL q hq.1 hq.2
  generalize rd opsL q = op at hr ⊢
  have e1 : wrap64 (Int.tmod b 4) = b % 4 := by rw [Int.tmod_eq_emod_of_nonneg hb0, w64 (by omega) (by omega)]
  have e2 : wrap64 ((at_ : Int) + 1) = (at_ : Int) + 1 := w64 (by omega) (by omega)
  have h4 : 0 ≤ b % 4 ∧ b % 4 < 4 := by omega
  have h8 : 0 ≤ (Int.tdiv b 4) % 8 ∧ (Int.tdiv b 4) % 8 < 8 := by omega
  have h44 : 0 ≤ (Int.tdiv b 4) % 4 ∧ (Int.tdiv b 4) % 4 < 4 := by omega
  have h162 : 0 ≤ (Int.tdiv b 16) % 2 ∧ (Int.tdiv b 16) % 2 < 2 := by omega
  have h164 : 0 ≤ (Int.tdiv b 16) % 4 ∧ (Int.tdiv b 16) % 4 < 4 := by omega
  have e3 : Aside0 (wrap64 ((at_ : Int) + 1 + (Int.tdiv b 4) % 4) = (at_ : Int) + 1 + (Int.tdiv b 4) % 4) := ⟨w64 (by omega) (by omega)⟩
  have e4 : Aside0 (wrap64 ((at_ : Int) - (Int.tdiv b 4) % 4) = (at_ : Int) - (Int.tdiv b 4) % 4) := ⟨w64 (by omega) (by omega)⟩
  have hmn : ∀ x : Int, 0 ≤ x → 0 ≤ mn x (n : Int) ∧ mn x (n : Int) ≤ (n : Int) := fun x hx => by unfold mn; split <;> omega
  have hmx : ∀ x : Int, x ≤ (n : Int) → 0 ≤ mx x 0 ∧ mx x 0 ≤ (n : Int) := fun x hx => by unfold mx; split <;> omega
  simp only [interlocklaw02_Ins.j0, interlocklaw02_Ins.j1]
  generalize (Int.tdiv b 4) % 8 = c8 at h8 ⊢
  generalize (Int.tdiv b 4) % 4 = c4 at h44 e3 e4 ⊢
  generalize (Int.tdiv b 16) % 2 = d2 at h162 ⊢
  rw [e1]
  generalize b % 4 = r at h4 ⊢
  rcases (by omega : op = 0 ∨ op = 1 ∨ op = 2 ∨ op = 3 ∨ op = 4 ∨ op = 5 ∨ op = 6 ∨ op = 7 ∨ op = 8 ∨ op = 9 ∨ op = 10 ∨ op = 11 ∨ op = 13 ∨ op = 14 ∨ op = 15 ∨ op = 16 ∨ op = 17 ∨ op = 18 ∨ op = 19 ∨ op = 20 ∨ op = 21 ∨ op = 22 ∨ op = 23 ∨ op = 24 ∨ op = 25 ∨ op = 26 ∨ op = 27) with rfl | rfl | rfl | rfl | rfl | rfl | rfl | rfl | rfl | rfl | rfl | rfl | rfl | rfl | rfl | rfl | rfl | rfl | rfl | rfl | rfl | rfl | rfl | rfl | rfl | rfl | rfl
  case inr.inr.inr.inr.inr.inr.inr.inr.inr.inr.inr.inl =>
    by_cases h200 : b ≥ 200
    · refine ⟨(11, r, mx (wrap64 ((at_ : Int) - c4)) 0, 0), Ev.step (f := fun k => _) (fun k => by rw [if_neg (by decide), if_neg (by decide), if_neg (by decide), if_neg (by decide), if_neg (by decide)]; exact (show interlocklaw02_Ins.j0 (k + 1) b (at_ : Int) (n : Int) 11 r c4 d2 11 false = if b ≥ 200 then some (11, r, mx (wrap64 ((at_ : Int) - c4)) 0, 0) else some (11, r, mn (wrap64 ((wrap64 ((at_ : Int) + 1)) + c4)) (n : Int), 0) from rfl)) (Ev.congr (fun k => if_pos h200) (Ev.now _)), ?_⟩
      have := hmx (wrap64 ((at_ : Int) - c4)) (by rw [e4.out]; omega)
      exact trivial
    · refine ⟨(11, r, mn (wrap64 ((wrap64 ((at_ : Int) + 1)) + c4)) (n : Int), 0), Ev.step (f := fun k => _) (fun k => by rw [if_neg (by decide), if_neg (by decide), if_neg (by decide), if_neg (by decide), if_neg (by decide)]; exact (show interlocklaw02_Ins.j0 (k + 1) b (at_ : Int) (n : Int) 11 r c4 d2 11 false = if b ≥ 200 then some (11, r, mx (wrap64 ((at_ : Int) - c4)) 0, 0) else some (11, r, mn (wrap64 ((wrap64 ((at_ : Int) + 1)) + c4)) (n : Int), 0) from rfl)) (Ev.congr (fun k => if_neg h200) (Ev.now _)), ?_⟩
      have := hmn (wrap64 ((wrap64 ((at_ : Int) + 1)) + c4)) (by rw [e2, e3.out]; omega)
      exact trivial
  case inr.inr.inr.inr.inr.inr.inr.inr.inr.inr.inl =>
    have := hmn (wrap64 ((wrap64 ((at_ : Int) + 1)) + c4)) (by rw [e2, e3.out]; omega)
    exact ⟨(10, mn (wrap64 ((wrap64 ((at_ : Int) + 1)) + c4)) (n : Int), 0, 0), Ev.step (f := fun _ => _) (fun _ => rfl) (Ev.now _), trivial⟩
  all_goals exact ⟨(_, _, _, _), ⟨2, fun k hk => by obtain ⟨k, rfl⟩ := Nat.exists_eq_add_of_le hk; rw [Nat.add_comm 2 k]; rfl⟩, trivial⟩
abbrev Q7 := Int × Int × Int × List Int × Int × Int × List (List S59)
def AllG (t len : Nat) (c : List S59) : Prop := ∀ x ∈ c, Good t len x
def CodeG (t : Nat) (c : List S59) : Prop := AllG t c.length c ∧ c.length ≤ 11
def MakeOK (n : Nat) (r : Q7) : Prop := ∃ th, r = (2, 1, 1, [1], 1, 1, th) ∧ th.length = n ∧ ∀ c ∈ th, CodeG n c
def U8s (c : List Int) : Prop := ∀ x ∈ c, 0 ≤ x ∧ x ≤ 255
theorem U8s.at_ {c : List Int} (h : U8s c) {i : Nat} (hi : i < c.length) : 0 ≤ rd c (i : Int) ∧ rd c (i : Int) ≤ 255 := by
  refine h _ ?_
  show c.getD (i : Int).toNat 0 ∈ c
  rw [Int.toNat_natCast, List.getD_eq_getElem?_getD, List.getElem?_eq_getElem hi]
  exact List.getElem_mem hi
theorem AllG.snoc {t len : Nat} {c : List S59} (h : AllG t len c) {x : S59} (hx : Good t len x) : AllG t len (c ++ [x]) := by
  intro y hy
  rcases List.mem_append.1 hy with h1 | h1
  · exact h y h1
  · rw [List.mem_singleton.1 h1]; exact hx
theorem AllG.more {t len t' len' : Nat} {c : List S59} (h : AllG t len c) (ht : t ≤ t') (hl : len ≤ len') : AllG t' len' c := fun x hx => (h x hx).more ht hl
section
variable (l : List (List Int)) (n : Nat)
/-- What follows behind a thread. -/
def Next (i : Nat) (TH : List (List S59)) : Prop := ∀ code : List S59, CodeG n code → Gv (MakeOK n) (fun k => interlocklaw02_Make.l0 k l (n : Int) ((i + 1 : Nat) : Int) 2 1 1 [1] 1 1 (TH ++ [code]))
/-- One instruction more. -/
def pushL (G : List (List Int) → Int → Int → List S59 → Int → List Int → Int → Int → Int → Int → Int → List Int → Int → Int → List (List S59) → Option Q7) (l : List (List Int)) (n i : Nat) (code : List S59) (hd : Nat) (c : List Int) (many : Nat) (m : Int) (TH : List (List S59)) (bt : Q4) : Option Q7 :=
  if code.length < 4398046511104 then G l (n : Int) (i : Int) (code ++ [(⟨bt.1, bt.2.1, bt.2.2.1, bt.2.2.2⟩ : S59)]) (hd : Int) c (many : Int) m 2 1 1 [1] 1 1 TH else none
theorem push_eq (G : List (List Int) → Int → Int → List S59 → Int → List Int → Int → Int → Int → Int → Int → List Int → Int → Int → List (List S59) → Option Q7) (l : List (List Int)) (n i : Nat) (code : List S59) (hd : Nat) (c : List Int) (many : Nat) (m : Int) (TH : List (List S59)) (bt : Q4) (h : code.length < 4398046511104) :
    pushL G l n i code hd c many m TH bt = G l (n : Int) (i : Int) (code ++ [(⟨bt.1, bt.2.1, bt.2.2.1, bt.2.2.2⟩ : S59)]) (hd : Int) c (many : Int) m 2 1 1 [1] 1 1 TH := if_pos h
theorem l2_ok (i : Nat) (hi : i < 3) (TH : List (List S59)) (hT : TH.length = i) (hN : Next l n i TH) (c : List Int) (hc : U8s c) (hd many : Nat) (hm : many ≤ 9) (h2 : 2 * many ≤ c.length) (_hcl : c.length ≤ 9223372036854775807) (hh : hd ≤ 2) : ∀ (q m : Nat) (code : List S59), m + q = many → AllG n (hd + many) code → code.length = hd + m →
    Gv (MakeOK n) (fun k => interlocklaw02_Make.l2 k l (n : Int) (i : Int) code (hd : Int) c (many : Int) (m : Int) 2 1 1 [1] 1 1 TH) := by
  intro q
  induction q with
  | zero =>
    intro m code hmq ho hl
    refine Gv.step (f := fun k => interlocklaw02_Make.l0 k l (n : Int) ((i + 1 : Nat) : Int) 2 1 1 [1] 1 1 (TH ++ [code])) (fun k => ?_) (hN code ⟨by rw [hl, show m = many by omega]; exact ho, by omega⟩)
    simp only [interlocklaw02_Make.l2]
    rw [if_neg (by omega), if_pos (by omega), w64 (by omega) (by omega)]; rfl
  | succ q ih =>
    intro m code hmq ho hl
    have E1 : Aside0 (wrap64 (2 * (m : Int)) = ((2 * m : Nat) : Int)) := ⟨by rw [w64 (by omega) (by omega)]; omega⟩
    have E2 : Aside0 (wrap64 (((2 * m : Nat) : Int) + 1) = ((2 * m + 1 : Nat) : Int)) := ⟨by rw [w64 (by omega) (by omega)]; rfl⟩
    have E3 : Aside0 (wrap64 ((m : Int) + 1) = ((m + 1 : Nat) : Int)) := ⟨by rw [w64 (by omega) (by omega)]; rfl⟩
    have E4 : Aside0 (wrap64 ((hd : Int) + (m : Int)) = ((hd + m : Nat) : Int)) := ⟨by rw [w64 (by omega) (by omega)]; rfl⟩
    have E5 : Aside0 (wrap64 ((hd : Int) + (many : Int)) = ((hd + many : Nat) : Int)) := ⟨by rw [w64 (by omega) (by omega)]; rfl⟩
    have hA := hc.at_ (i := 2 * m) (by omega)
    have hA2 := hc.at_ (i := 2 * m + 1) (by omega)
    refine Gv.step (f := fun k => (interlocklaw02_Ins.f k (rd c ((2 * m : Nat) : Int)) (rd c ((2 * m + 1 : Nat) : Int)) ((hd + m : Nat) : Int) ((hd + many : Nat) : Int)).bind (pushL (interlocklaw02_Make.l2 k) l n i code hd c many ((m + 1 : Nat) : Int) TH)) (fun k => ?_) (Gv.bind (ins_good _ _ (hd + m) (hd + many) n hA.1 hA.2 hA2.1 hA2.2 (by omega) (by omega)) (fun bt hbt => ?_))
    rotate_left
    · refine Gv.congr (fun k => push_eq _ _ _ _ _ _ _ _ _ _ _ (by omega)) (ih (m + 1) _ (by omega) (ho.snoc hbt) (by rw [List.length_append, hl]; simp; omega))
    simp only [interlocklaw02_Make.l2]
    rw [if_pos (by omega), E1.out, if_pos (by omega), if_pos (by omega), E2.out, if_pos (by omega), if_pos (by omega), E3.out, E4.out, E5.out]
    rfl
theorem l4_ok (i : Nat) (hi : i < 3) (TH : List (List S59)) (hT : TH.length = i) (hN : Next l n i TH) (c : List Int) (hc : U8s c) (hd many : Nat) (hm : many ≤ 9) (h2 : 2 * many ≤ c.length) (_hcl : c.length ≤ 9223372036854775807) (hh : hd ≤ 2) : ∀ (q m : Nat) (code : List S59), m + q = many → AllG n (hd + many) code → code.length = hd + m →
    Gv (MakeOK n) (fun k => interlocklaw02_Make.l4 k l (n : Int) (i : Int) code (hd : Int) c (many : Int) (m : Int) 2 1 1 [1] 1 1 TH) := by
  intro q
  induction q with
  | zero =>
    intro m code hmq ho hl
    refine Gv.step (f := fun k => interlocklaw02_Make.l0 k l (n : Int) ((i + 1 : Nat) : Int) 2 1 1 [1] 1 1 (TH ++ [code])) (fun k => ?_) (hN code ⟨by rw [hl, show m = many by omega]; exact ho, by omega⟩)
    simp only [interlocklaw02_Make.l4]
    rw [if_neg (by omega), if_pos (by omega), w64 (by omega) (by omega)]; rfl
  | succ q ih =>
    intro m code hmq ho hl
    have E1 : Aside0 (wrap64 (2 * (m : Int)) = ((2 * m : Nat) : Int)) := ⟨by rw [w64 (by omega) (by omega)]; omega⟩
    have E2 : Aside0 (wrap64 (((2 * m : Nat) : Int) + 1) = ((2 * m + 1 : Nat) : Int)) := ⟨by rw [w64 (by omega) (by omega)]; rfl⟩
    have E3 : Aside0 (wrap64 ((m : Int) + 1) = ((m + 1 : Nat) : Int)) := ⟨by rw [w64 (by omega) (by omega)]; rfl⟩
    have E4 : Aside0 (wrap64 ((hd : Int) + (m : Int)) = ((hd + m : Nat) : Int)) := ⟨by rw [w64 (by omega) (by omega)]; rfl⟩
    have E5 : Aside0 (wrap64 ((hd : Int) + (many : Int)) = ((hd + many : Nat) : Int)) := ⟨by rw [w64 (by omega) (by omega)]; rfl⟩
    have hA := hc.at_ (i := 2 * m) (by omega)
    have hA2 := hc.at_ (i := 2 * m + 1) (by omega)
    refine Gv.step (f := fun k => (interlocklaw02_Ins.f k (rd c ((2 * m : Nat) : Int)) (rd c ((2 * m + 1 : Nat) : Int)) ((hd + m : Nat) : Int) ((hd + many : Nat) : Int)).bind (pushL (interlocklaw02_Make.l4 k) l n i code hd c many ((m + 1 : Nat) : Int) TH)) (fun k => ?_) (Gv.bind (ins_good _ _ (hd + m) (hd + many) n hA.1 hA.2 hA2.1 hA2.2 (by omega) (by omega)) (fun bt hbt => ?_))
    rotate_left
    · refine Gv.congr (fun k => push_eq _ _ _ _ _ _ _ _ _ _ _ (by omega)) (ih (m + 1) _ (by omega) (ho.snoc hbt) (by rw [List.length_append, hl]; simp; omega))
    simp only [interlocklaw02_Make.l4]
    rw [if_pos (by omega), E1.out, if_pos (by omega), if_pos (by omega), E2.out, if_pos (by omega), if_pos (by omega), E3.out, E4.out, E5.out]
    rfl
theorem l3_ok (i : Nat) (hi : i < 3) (TH : List (List S59)) (hT : TH.length = i) (hN : Next l n i TH) (code : List S59) (ho : CodeG n code) :
    Gv (MakeOK n) (fun k => interlocklaw02_Make.l3 k l (n : Int) (i : Int) code 0 0 2 1 1 [1] 1 1 TH) := by
  refine Gv.step (f := fun k => interlocklaw02_Make.l0 k l (n : Int) ((i + 1 : Nat) : Int) 2 1 1 [1] 1 1 (TH ++ [code])) (fun k => ?_) (hN code ho)
  simp only [interlocklaw02_Make.l3]
  rw [if_neg (by omega), if_pos (by omega), w64 (by omega) (by omega)]; rfl
theorem mn_half (c : List Int) (hcl : c.length ≤ 9223372036854775807) : ∃ many : Nat, mn (wrap64 ((c.length : Int) / 2)) 9 = (many : Int) ∧ many ≤ 9 ∧ 2 * many ≤ c.length := by
  rw [w64 (by omega) (by omega)]
  by_cases h : 9 < (c.length : Int) / 2
  · exact ⟨9, by unfold mn; rw [if_pos h]; rfl, Nat.le_refl _, by omega⟩
  · exact ⟨c.length / 2, by unfold mn; rw [if_neg h]; omega, by omega, by omega⟩
theorem rd_rows (hl : ∀ c ∈ l, c.length ≤ 9223372036854775807 ∧ U8s c) (i : Nat) (hi : i < l.length) : (rd_L10 l (i : Int)).length ≤ 9223372036854775807 ∧ U8s (rd_L10 l (i : Int)) := by
  refine hl _ ?_
  show l.getD (i : Int).toNat [] ∈ l
  rw [Int.toNat_natCast, List.getD_eq_getElem?_getD, List.getElem?_eq_getElem hi]
  exact List.getElem_mem hi
theorem l1_ok (hl : ∀ c ∈ l, c.length ≤ 9223372036854775807 ∧ U8s c) (_hll : l.length ≤ 9223372036854775807) (i : Nat) (hi : i < 3) (hn : n ≤ 3) (TH : List (List S59)) (hT : TH.length = i) (hN : Next l n i TH) : ∀ (q m : Nat) (code : List S59), m + q = n → 1 ≤ m → AllG n 0 code → code.length + 1 ≤ m →
    Gv (MakeOK n) (fun k => interlocklaw02_Make.l1 k l (n : Int) (i : Int) code (m : Int) 2 1 1 [1] 1 1 TH) := by
  have tail4 : ∀ code : List S59, AllG n 0 code → code.length ≤ 2 → Gv (MakeOK n) (fun k => if (i : Int) < (l.length : Int) then (if 0 ≤ (i : Int) then (interlocklaw02_Make.l4 k l (n : Int) (i : Int) code (code.length : Int) (rd_L10 l (i : Int)) (mn (wrap64 (((rd_L10 l (i : Int)).length : Int) / 2)) 9) 0 2 1 1 [1] 1 1 TH) else (none)) else (interlocklaw02_Make.l3 k l (n : Int) (i : Int) code 0 0 2 1 1 [1] 1 1 TH)) := by
    intro code ho hlen
    refine Gv.ite (fun h => Gv.pos (by omega) ?_) (fun h => l3_ok l n i hi TH hT hN code ⟨ho.more (Nat.le_refl _) (Nat.zero_le _), by omega⟩)
    obtain ⟨r1, r2⟩ := rd_rows l hl i (by omega)
    obtain ⟨many, e1, e2, e3⟩ := mn_half (rd_L10 l (i : Int)) r1
    rw [e1]
    exact l4_ok l n i hi TH hT hN _ r2 code.length many e2 e3 r1 hlen many 0 code (by omega) (ho.more (Nat.le_refl _) (Nat.zero_le _)) (by omega)
  have tail2 : ∀ code : List S59, AllG n 0 code → code.length ≤ 2 → Gv (MakeOK n) (fun k => if (i : Int) < (l.length : Int) then (if 0 ≤ (i : Int) then (interlocklaw02_Make.l2 k l (n : Int) (i : Int) code (code.length : Int) (rd_L10 l (i : Int)) (mn (wrap64 (((rd_L10 l (i : Int)).length : Int) / 2)) 9) 0 2 1 1 [1] 1 1 TH) else (none)) else (interlocklaw02_Make.l3 k l (n : Int) (i : Int) code 0 0 2 1 1 [1] 1 1 TH)) := by
    intro code ho hlen
    refine Gv.ite (fun h => Gv.pos (by omega) ?_) (fun h => l3_ok l n i hi TH hT hN code ⟨ho.more (Nat.le_refl _) (Nat.zero_le _), by omega⟩)
    obtain ⟨r1, r2⟩ := rd_rows l hl i (by omega)
    obtain ⟨many, e1, e2, e3⟩ := mn_half (rd_L10 l (i : Int)) r1
    rw [e1]
    exact l2_ok l n i hi TH hT hN _ r2 code.length many e2 e3 r1 hlen many 0 code (by omega) (ho.more (Nat.le_refl _) (Nat.zero_le _)) (by omega)
  intro q
  induction q with
  | zero =>
    intro m code hmq hm1 ho hlen
    refine Gv.step (fun k => ?_) (tail4 code ho (by omega))
    simp only [interlocklaw02_Make.l1]
    rw [if_neg (by omega)]
  | succ q ih =>
    intro m code hmq hm1 ho hlen
    have E3 : Aside0 (wrap64 ((m : Int) + 1) = ((m + 1 : Nat) : Int)) := ⟨by rw [w64 (by omega) (by omega)]; rfl⟩
    by_cases h0 : (i : Int) = 0
    · refine Gv.step (f := fun k => interlocklaw02_Make.l1 k l (n : Int) (i : Int) (code ++ [(⟨12, (m : Int), 0, 0⟩ : S59)]) ((m + 1 : Nat) : Int) 2 1 1 [1] 1 1 TH) (fun k => ?_) (ih (m + 1) _ (by omega) (by omega) (ho.snoc (trivial)) (by rw [List.length_append]; simp; omega))
      simp only [interlocklaw02_Make.l1]
      rw [if_pos (by omega), if_pos h0, if_pos (by omega), E3.out]
    · refine Gv.step (fun k => ?_) (tail2 code ho (by omega))
      simp only [interlocklaw02_Make.l1]
      rw [if_pos (by omega), if_neg h0]
theorem l0_ok (hl : ∀ c ∈ l, c.length ≤ 9223372036854775807 ∧ U8s c) (hll : l.length ≤ 9223372036854775807) (hn : n ≤ 3) (hn1 : 1 ≤ n) : ∀ (q i : Nat) (TH : List (List S59)), i + q = n → TH.length = i → (∀ c ∈ TH, CodeG n c) →
    Gv (MakeOK n) (fun k => interlocklaw02_Make.l0 k l (n : Int) (i : Int) 2 1 1 [1] 1 1 TH) := by
  intro q
  induction q with
  | zero =>
    intro i TH hiq hT hA
    refine Gv.step (f := fun _ => some (2, 1, 1, [1], 1, 1, TH)) (fun k => ?_) (Gv.some_ ⟨TH, rfl, by omega, hA⟩)
    simp only [interlocklaw02_Make.l0]
    rw [if_neg (by omega)]
  | succ q ih =>
    intro i TH hiq hT hA
    have hN : Next l n i TH := fun code hc => ih (i + 1) (TH ++ [code]) (by omega) (by rw [List.length_append, hT]; rfl) (fun c hm => by
      rcases List.mem_append.1 hm with h1 | h1
      · exact hA c h1
      · rw [List.mem_singleton.1 h1]; exact hc)
    refine Gv.step (f := fun k => interlocklaw02_Make.l1 k l (n : Int) (i : Int) ([] : List S59) ((1 : Nat) : Int) 2 1 1 [1] 1 1 TH) (fun k => ?_) (l1_ok l n hl hll i (by omega) hn TH hT hN (n - 1) 1 [] (by omega) (Nat.le_refl _) (fun x hx => by cases hx) (Nat.le_refl _))
    simp only [interlocklaw02_Make.l0]
    rw [if_pos (by omega)]; rfl
end
theorem make_ok (l : List (List Int)) (hl : ∀ c ∈ l, c.length ≤ 9223372036854775807 ∧ U8s c) (hll : l.length ≤ 9223372036854775807) :
    ∃ (n : Nat) (th : List (List S59)), 1 ≤ n ∧ n ≤ 3 ∧ th.length = n ∧ (∀ c ∈ th, CodeG n c) ∧ Ev (fun k => interlocklaw02_Make.f k l) (2, 1, 1, [1], 1, 1, th) := by
  obtain ⟨n, e1, h1, h3⟩ : ∃ n : Nat, mx (mn (l.length : Int) 3) 1 = (n : Int) ∧ 1 ≤ n ∧ n ≤ 3 := by
    have : l.length = 0 ∨ l.length = 1 ∨ l.length = 2 ∨ 3 ≤ l.length := by omega
    rcases this with h | h | h | h
    · exact ⟨1, by rw [h]; rfl, by omega, by omega⟩
    · exact ⟨1, by rw [h]; rfl, by omega, by omega⟩
    · exact ⟨2, by rw [h]; rfl, by omega, by omega⟩
    · refine ⟨3, ?_, by omega, by omega⟩
      have : mn (l.length : Int) 3 = 3 := by unfold mn; split <;> omega
      rw [this]; rfl
  obtain ⟨r, hr1, th, rfl, hr2, hr3⟩ := l0_ok l n hl hll h3 h1 n 0 [] (by omega) rfl (fun c h => by cases h)
  refine ⟨n, th, h1, h3, hr2, hr3, Ev.congr (fun k => ?_) hr1⟩
  unfold interlocklaw02_Make.f
  rw [e1]; rfl
/-- What the statement's bounds say. -/
theorem wf_rows {l : List (List Int)} (h : l.length ≤ 140737488351232 ∧ ∀ x ∈ l, (fun xs : List Int => xs.length ≤ 140737488351232 ∧ ∀ x ∈ xs, (fun x => (Lit.int .u8 x).wf = true) x) x) : (∀ c ∈ l, c.length ≤ 9223372036854775807 ∧ U8s c) ∧ l.length ≤ 9223372036854775807 :=
  ⟨fun c hc => ⟨Nat.le_trans (h.2 c hc).1 (by decide), fun x hx => by
    obtain ⟨q0, q1⟩ := bounds_u8 ((h.2 c hc).2 x hx)
    exact ⟨q0, by omega⟩⟩, Nat.le_trans h.1 (by decide)⟩
end Go.Proofs.YtbnkeddnibjncaaDoor.Th
namespace Go.Proofs.YtbnkeddnibjncaaDoor.Th
set_option linter.unusedVariables false
set_option linter.unusedSectionVars false
open Go Go.RowKit Go.Proofs.YtbnkeddnibjncaaDoor.P Go.Proofs.YtbnkeddnibjncaaDoor.Opn Go.Proofs.YtbnkeddnibjncaaDoorW.PrintWords Go.Proofs.YtbnkeddnibjncaaDoorW.PrintLast Go.Proofs.YtbnkeddnibjncaaDoorW.PrintMore
/-! The document's Of comes to the loops; rows of loops that are alike; what may be next of code. -/
section
variable {ss : List (List Int)} (hg : Gok ss) {rc : List Bool} (hrl : rc.length = ss.length) (hrc : ∀ i, i < ss.length → (rc.getD i false = true ↔ Rch ss i)) {o : List Nat} (hol : o.length = ss.length) (ho : ∀ j, fn o j < U) (hd : ∀ i, i < ss.length → ∀ d, d < 64 → ((fn o i).testBit d = true ↔ Dom ss d i))
def collF (b : List Bool) : Nat → Nat → List Int
  | 0, _ => []
  | d + 1, i => (if b.getD i false = true then [(i : Int)] else []) ++ collF b d (i + 1)
theorem collF_eq (b : List Bool) : ∀ (d i : Nat), collF b d i = ((List.range' i d).filter fun x => b.getD x false).map (fun x : Nat => (x : Int))
  | 0, i => rfl
  | d + 1, i => by
    rw [collF, collF_eq b d (i + 1), List.range'_succ, List.filter_cons]
    split
    · rfl
    · rfl
theorem rof_l1 (hn : ss.length ≤ 64) (b : List Bool) (hb : b.length = ss.length) (h : Nat) (hh : h < ss.length) (out : List S35) (hout : out.length ≤ 64) (r : List S35) : ∀ (d i : Nat) (acc : List Int), i + d = b.length → acc.length ≤ i →
    Ev (fun k => interlockref12_Of.l0 k ss (IL o) rc (out ++ [(⟨(h : Int), acc ++ collF b d i⟩ : S35)]) ((h + 1 : Nat) : Int)) r →
    Ev (fun k => interlockref12_Of.l1 k ss (IL o) rc out (h : Int) (OB b) acc (i : Int)) r
  | 0, i, acc, hi, ha, cont => by
    rw [collF, List.append_nil] at cont
    have hol2 : (OB b).length = b.length := OB_len b
    exact Ev.step (f := fun k => _) (fun k => by
      simp only [interlockref12_Of.l1]
      rw [if_neg (show ¬ (i : Int) < ((OB b).length : Int) by omega), if_pos (show out.length < 4398046511104 by omega), up h (by omega)]) cont
  | d + 1, i, acc, hi, ha, cont => by
    have hol2 : (OB b).length = b.length := OB_len b
    rw [collF] at cont
    by_cases hx : b.getD i false = true
    · rw [if_pos hx, ← List.append_assoc] at cont
      have ih := rof_l1 hn b hb h hh out hout r d (i + 1) (acc ++ [(i : Int)]) (by omega) (by rw [List.length_append, List.length_singleton]; omega) cont
      exact Ev.step (f := fun k => _) (fun k => by
        simp only [interlockref12_Of.l1]
        rw [if_pos (show (i : Int) < ((OB b).length : Int) by omega), if_pos (show 0 ≤ (i : Int) by omega), OB_rd, if_pos hx, if_pos rfl, if_pos (show acc.length < 17592186044416 by omega), up i (by omega)]) ih
    · rw [if_neg hx, List.nil_append] at cont
      have ih := rof_l1 hn b hb h hh out hout r d (i + 1) acc (by omega) (by omega) cont
      exact Ev.step (f := fun k => _) (fun k => by
        simp only [interlockref12_Of.l1]
        rw [if_pos (show (i : Int) < ((OB b).length : Int) by omega), if_pos (show 0 ≤ (i : Int) by omega), OB_rd, if_neg hx, if_neg (by decide), up i (by omega)]) ih
include hg hrl hrc hol ho hd in
open Classical in
theorem rof_l0 : ∀ (d h : Nat) (out : List S35), h + d = ss.length → out.length ≤ h → Ev (fun k => interlockref12_Of.l0 k ss (IL o) rc out (h : Int)) (out ++ loopsFrom ss d h)
  | 0, h, out, hd0, hout => by
    rw [loopsFrom, List.append_nil]
    exact Ev.step (f := fun _ => some out) (fun k => by
      simp only [interlockref12_Of.l0]
      rw [if_neg (show ¬ (h : Int) < (ss.length : Int) by omega)]) (Ev.now _)
  | d + 1, h, out, hd0, hout => by
    have hn := hg.n64
    have hh : h < ss.length := by omega
    obtain ⟨b, b1, b2⟩ := mb_ev hg hrl hrc hol ho hd h hh
    have hbl := b2.1
    have hol2 : (OB b).length = b.length := OB_len b
    refine Ev.step (f := fun k => _) (fun k => by
      simp only [interlockref12_Of.l0]
      rw [if_pos (show (h : Int) < (ss.length : Int) by omega)]) (Ev.bind b1 (ev_pos (show 0 ≤ (h : Int) by omega) (ev_pos (show (h : Int) < ((OB b).length : Int) by omega) ?_)))
    rw [OB_rd, loopsFrom]
    by_cases hb : b.getD h false = true
    · have hhd := ((b2.2 h).1 hb).1
      rw [if_pos hb, if_pos hhd]
      refine ev_neg (by decide) ?_
      have e : collF b b.length 0 = bodyL ss h := by rw [collF_eq]; exact bodyL_of b2 hhd
      refine rof_l1 hn b hbl h hh out (by omega) _ b.length 0 [] (Nat.zero_add _) (Nat.zero_le _) ?_
      rw [List.nil_append, e, ← List.append_assoc]
      exact rof_l0 d (h + 1) _ (by omega) (by rw [List.length_append, List.length_singleton]; omega)
    · have hnh : ¬ Head ss h := fun c => hb ((b2.2 h).2 ⟨c, .head⟩)
      rw [if_neg hb, if_neg hnh, List.nil_append]
      refine ev_pos rfl ?_
      rw [up h (by omega)]
      exact rof_l0 d (h + 1) out (by omega) (by omega)
end
theorem rof_ev {ss : List (List Int)} (hg : Gok ss) : Ev (fun k => interlockref12_Of.f k ss) (OfN ss) := by
  have hn := hg.n64
  obtain ⟨rc, r1, r2, r3⟩ := rreach_ev hg
  obtain ⟨o, o1, o2, o3, o4⟩ := rdoms_ev hg
  unfold interlockref12_Of.f
  refine ev_neg (by omega) (Ev.bind o1 (Ev.bind r1 ?_))
  have := rof_l0 hg r2 r3 o2 o3 o4 ss.length 0 [] (Nat.zero_add _) (Nat.le_refl _)
  rw [List.nil_append] at this
  exact this
/-! Alike. -/
theorem same01_l0 (l : List Int) (hl : l.length ≤ 1000000) : ∀ (d j : Nat), j + d = l.length → Ev (fun k => interlockref01_Same.l0 k l l (j : Int)) true
  | 0, j, hj => Ev.step (f := fun _ => some true) (fun k => by
      simp only [interlockref01_Same.l0]
      rw [if_neg (by omega)]) (Ev.now _)
  | d + 1, j, hj => Ev.step (f := fun k => _) (fun k => by
      simp only [interlockref01_Same.l0]
      rw [if_pos (by omega), if_pos (by omega), if_pos (by omega), if_pos trivial, up j (by omega)]) (same01_l0 l hl d (j + 1) (by omega))
theorem same01_ev (l : List Int) (hl : l.length ≤ 1000000) : Ev (fun k => interlockref01_Same.f k l l) true := by
  unfold interlockref01_Same.f
  exact ev_pos rfl (same01_l0 l hl l.length 0 (Nat.zero_add _))
theorem same12_l0 (L : List S35) (hl : L.length ≤ 1000000) (hr : ∀ M ∈ L, M.f1.length ≤ 1000000) : ∀ (d j : Nat), j + d = L.length → Ev (fun k => interlockref12_Same.l0 k L L (j : Int)) true
  | 0, j, hj => Ev.step (f := fun _ => some true) (fun k => by
      simp only [interlockref12_Same.l0]
      rw [if_neg (by omega)]) (Ev.now _)
  | d + 1, j, hj => by
    have hm := hr _ (rdT L j (by omega))
    exact Ev.step (f := fun k => _) (fun k => by
      simp only [interlockref12_Same.l0]
      rw [if_pos (by omega), if_pos (by omega), if_pos (by omega), if_pos trivial, up j (by omega)]) (Ev.bind (same01_ev _ hm) (ev_pos rfl (same12_l0 L hl hr d (j + 1) (by omega))))
theorem same12_ev (L : List S35) (hl : L.length ≤ 1000000) (hr : ∀ M ∈ L, M.f1.length ≤ 1000000) : Ev (fun k => interlockref12_Same.f k L L) true := by
  unfold interlockref12_Same.f
  exact ev_pos rfl (same12_l0 L hl hr L.length 0 (Nat.zero_add _))
/-- Both come to the same row of loops. -/
theorem both_ev (ss : List (List Int)) (h : ss.length ≤ 64 → Gok ss) : ∃ L, Ev (fun k => loop_Of.f k ss) L ∧ Ev (fun k => interlockref12_Of.f k ss) L ∧ Ev (fun k => interlockref12_Same.f k L L) true := by
  by_cases hn : ss.length ≤ 64
  · have hg := h hn
    refine ⟨OfN ss, of_ev hg, rof_ev hg, same12_ev _ ?_ (fun M hM => ?_)⟩
    · have : (OfN ss).length ≤ ss.length := loops_len ss ss.length 0
      omega
    · have := (loops_mem ss ss.length 0 M hM).len
      omega
  · refine ⟨[], ?_, ?_, same12_ev [] (by decide) (fun M hM => by cases hM)⟩
    · unfold loop_Of.f
      exact ev_neg hn (Ev.now _)
    · unfold interlockref12_Of.f
      exact ev_pos (by omega) (Ev.now _)
/-! What may be next. -/
theorem succs_l0 (c : List S59) (hc : c.length ≤ 64) : ∀ (d j : Nat) (out : List (List Int)), j + d = c.length → out.length = j → (∀ l ∈ out, l.length ≤ 2) →
    ∃ r : List (List Int), Ev (fun k => interlockref10_Succs.l0 k c out (j : Int)) r ∧ r.length = c.length ∧ ∀ l ∈ r, l.length ≤ 2
  | 0, j, out, hj, ho, hr => ⟨out, Ev.step (f := fun _ => some out) (fun k => by
      simp only [interlockref10_Succs.l0]
      rw [if_neg (by omega)]) (Ev.now _), by omega, hr⟩
  | d + 1, j, out, hj, ho, hr => by
    have hnext : ∀ l : List Int, l.length ≤ 2 → ∃ r : List (List Int), Ev (fun k => if out.length < 5864062014805 then interlockref10_Succs.l0 k c (out ++ [l]) ((j + 1 : Nat) : Int) else none) r ∧ r.length = c.length ∧ ∀ l ∈ r, l.length ≤ 2 := fun l hl => by
      obtain ⟨r, r1, r2⟩ := succs_l0 c hc d (j + 1) (out ++ [l]) (by omega) (by rw [List.length_append, List.length_singleton, ho]) (fun m hm => by
        rcases List.mem_append.1 hm with hm | hm
        · exact hr m hm
        · rw [List.mem_singleton.1 hm]; exact hl)
      exact ⟨r, ev_pos (by omega) r1, r2⟩
    have e1 : wrap64 ((j : Int) + 1) = ((j + 1 : Nat) : Int) := up j (by omega)
    have hj1 : ∀ x : Bool, ∃ r : List (List Int), Ev (fun k => interlockref10_Succs.j1 k c out (j : Int) x) r ∧ r.length = c.length ∧ ∀ l ∈ r, l.length ≤ 2 := fun x => by
      cases x with
      | true =>
        obtain ⟨r, r1, r2⟩ := hnext [(rd_T59 c (j : Int)).f2, ((j + 1 : Nat) : Int)] (Nat.le_refl _)
        exact ⟨r, Ev.step (f := fun k => _) (fun k => by
          simp only [interlockref10_Succs.j1]
          rw [if_pos trivial, if_pos (by omega), if_pos (by omega), e1]) r1, r2⟩
      | false =>
        by_cases h1 : (rd_T59 c (j : Int)).f0 = 11
        · by_cases h2 : (rd_T59 c (j : Int)).f2 > ((j + 1 : Nat) : Int)
          · obtain ⟨r, r1, r2⟩ := hnext [((j + 1 : Nat) : Int), (rd_T59 c (j : Int)).f2] (Nat.le_refl _)
            exact ⟨r, Ev.step (f := fun k => _) (fun k => by
              simp only [interlockref10_Succs.j1]
              rw [if_neg (by decide), if_pos (by omega), if_pos (by omega), if_pos h1, e1, if_pos h2]) r1, r2⟩
          · obtain ⟨r, r1, r2⟩ := hnext [((j + 1 : Nat) : Int)] (by simp)
            exact ⟨r, Ev.step (f := fun k => _) (fun k => by
              simp only [interlockref10_Succs.j1]
              rw [if_neg (by decide), if_pos (by omega), if_pos (by omega), if_pos h1, e1, if_neg h2]) r1, r2⟩
        · obtain ⟨r, r1, r2⟩ := hnext [((j + 1 : Nat) : Int)] (by simp)
          exact ⟨r, Ev.step (f := fun k => _) (fun k => by
            simp only [interlockref10_Succs.j1]
            rw [if_neg (by decide), if_pos (by omega), if_pos (by omega), if_neg h1, e1]) r1, r2⟩
    by_cases h0 : (rd_T59 c (j : Int)).f0 = 10
    · obtain ⟨r, r1, r2⟩ := hnext [(rd_T59 c (j : Int)).f1] (by simp)
      exact ⟨r, Ev.step (f := fun k => _) (fun k => by
        simp only [interlockref10_Succs.l0]
        rw [if_pos (by omega), if_pos (by omega), if_pos h0, e1]) r1, r2⟩
    · by_cases h1 : (rd_T59 c (j : Int)).f0 = 11
      · obtain ⟨r, r1, r2⟩ := hj1 (decide ((rd_T59 c (j : Int)).f2 < ((j + 1 : Nat) : Int)))
        exact ⟨r, Ev.step (f := fun k => _) (fun k => by
          simp only [interlockref10_Succs.l0]
          rw [if_pos (by omega), if_pos (by omega), if_neg h0, if_pos h1, e1]) r1, r2⟩
      · obtain ⟨r, r1, r2⟩ := hj1 false
        exact ⟨r, Ev.step (f := fun k => _) (fun k => by
          simp only [interlockref10_Succs.l0]
          rw [if_pos (by omega), if_pos (by omega), if_neg h0, if_neg h1]) r1, r2⟩
theorem succs_ev (c : List S59) (hc : c.length ≤ 64) : ∃ r : List (List Int), Ev (fun k => interlockref10_Succs.f k c) r ∧ r.length = c.length ∧ ∀ l ∈ r, l.length ≤ 2 := succs_l0 c hc c.length 0 [] (Nat.zero_add _) rfl (fun l hl => by cases hl)
end Go.Proofs.YtbnkeddnibjncaaDoor.Th
