import Derived.Test.YtbnkeddnibjncaaDoorGT
namespace Go.Proofs.YtbnkeddnibjncaaDoor.Th
set_option linter.unusedVariables false
open Go Go.RowKit Go.Proofs.YtbnkeddnibjncaaDoor.P Go.Proofs.YtbnkeddnibjncaaDoor.Opn Go.Proofs.YtbnkeddnibjncaaDoorW.PrintWords Go.Proofs.YtbnkeddnibjncaaDoorW.PrintLast Go.Proofs.YtbnkeddnibjncaaDoorW.PrintMore
/-! cfg.Reach: all that are come to. -/
def cntF (l : List Bool) : Nat := (l.filter (fun b => !b)).length
theorem cntF_set : ∀ (l : List Bool) (i : Nat), i < l.length → l.getD i false = false → cntF (l.set i true) + 1 = cntF l
  | [], i, h, _ => by cases h
  | b :: l, 0, h, hb => by
    have hb : b = false := hb
    subst hb
    rfl
  | b :: l, i + 1, h, hb => by
    have ih := cntF_set l i (by simpa using h) hb
    unfold cntF at *
    rw [List.set_cons_succ, List.filter_cons, List.filter_cons]
    split
    · simp only [List.length_cons]; omega
    · exact ih
theorem cntF_le (l : List Bool) : cntF l ≤ l.length := List.length_filter_le _ _
structure RI (ss : List (List Int)) (seen : List Bool) (st : List Int) : Prop where
  len : seen.length = ss.length
  sound : ∀ i, seen.getD i false = true → Rch ss i
  stk : ∀ x ∈ st, 0 ≤ x → x < (ss.length : Int) → Rch ss x.toNat
  closed : ∀ i, seen.getD i false = true → ∀ j, Edge ss i j → seen.getD j false = true ∨ (j : Int) ∈ st
  zero : 0 < ss.length → seen.getD 0 false = true ∨ (0 : Int) ∈ st
theorem rdOfB (l : List Bool) (x : Int) : rdOf false l x = l.getD x.toNat false := rfl
theorem reach_m' {a q l m M : Nat} (hr : l + 1 ≤ M) (hle : (a + 1) * M + (q + 1) ≤ m + 1) : a * M + (q + l) ≤ m := by
  rw [Nat.succ_mul] at hle
  generalize a * M = p at *
  omega
theorem reach_m {a b q l m : Nat} (hc : a + 1 = b) (hr : l ≤ 900000) (hle : b * 900001 + (q + 1) ≤ m + 1) : a * 900001 + (q + l) ≤ m := by
  subst hc
  exact reach_m' (Nat.succ_le_succ hr) hle
theorem reach_done {ss : List (List Int)} {seen : List Bool} (h : RI ss seen []) : Ev (fun k => cfg_Reach.l0 k ss seen []) seen ∧ seen.length = ss.length ∧ ∀ i, i < ss.length → (seen.getD i false = true ↔ Rch ss i) := by
  refine ⟨Ev.step (f := fun _ => some seen) (fun k => by simp only [cfg_Reach.l0]; rw [if_neg (by simp)]) (Ev.now _), h.len, fun i hi => ⟨h.sound i, fun hr => ?_⟩⟩
  clear hi
  induction hr with
  | zero h0 _ => exact (h.zero h0).elim id (fun c => by cases c)
  | step h1 e _ ih => exact (h.closed _ ih _ e).elim id (fun c => by cases c)
theorem reach_l0 (ss : List (List Int)) (hn : ss.length ≤ 64) (hl : ∀ i, i < ss.length → (ss.getD i []).length ≤ 900000) : ∀ (m : Nat) (seen : List Bool) (st : List Int), m ≤ 60000000 → cntF seen * 900001 + st.length ≤ m → RI ss seen st →
    ∃ r : List Bool, Ev (fun k => cfg_Reach.l0 k ss seen st) r ∧ r.length = ss.length ∧ ∀ i, i < ss.length → (r.getD i false = true ↔ Rch ss i) := by
  intro m
  induction m with
  | zero =>
    intro seen st hm hle h
    obtain rfl : st = [] := List.eq_nil_of_length_eq_zero (by omega)
    exact ⟨seen, reach_done h⟩
  | succ m ih =>
    intro seen st hm hle h
    rcases List.eq_nil_or_concat st with rfl | ⟨q, x, rfl⟩
    · exact ⟨seen, reach_done h⟩
    rw [List.concat_eq_append] at *
    have hlen : (q ++ [x]).length = q.length + 1 := by simp
    rw [hlen] at hle
    have hw : wrap64 (((q ++ [x]).length : Int) - 1) = (q.length : Int) := by rw [hlen, w64 (by omega) (by omega)]; omega
    have hrd : rd (q ++ [x]) (q.length : Int) = x := by rw [rd_nat, List.getD_eq_getElem?_getD]; simp
    have htk : (q ++ [x]).take ((q.length : Int)).toNat = q := by rw [Int.toNat_natCast]; exact List.take_left
    have hstep : ∀ r, Ev (fun k => if x < 0 then cfg_Reach.l0 k ss seen q else (if x ≥ (ss.length : Int) then cfg_Reach.l0 k ss seen q else (if 0 ≤ x then (if x < (seen.length : Int) then if rdOf false seen x = true then cfg_Reach.l0 k ss seen q else (if x < (ss.length : Int) then (if q.length + (rd_L1 ss x).length < 17592186044416 then cfg_Reach.l0 k ss (seen.set x.toNat true) (q ++ rd_L1 ss x) else none) else none) else none) else none))) r → Ev (fun k => cfg_Reach.l0 k ss seen (q ++ [x])) r := fun r hr => by
      refine Ev.step (fun k => ?_) hr
      simp only [cfg_Reach.l0]
      rw [hw, hrd, htk, if_pos (by omega), if_pos (by omega), if_pos (by omega), if_pos (by omega), Option.bind_some]
    -- left out: nothing new
    have hskip : (0 ≤ x → x < (ss.length : Int) → seen.getD x.toNat false = true) → RI ss seen q := fun hx => by
      refine ⟨h.len, h.sound, fun y hy => h.stk y (List.mem_append.2 (.inl hy)), fun i hi j e => ?_, fun h0 => ?_⟩
      · rcases h.closed i hi j e with c | c
        · exact .inl c
        · rcases List.mem_append.1 c with c | c
          · exact .inr c
          · have c := List.mem_singleton.1 c
            have := e.2.1
            have := hx (by omega) (by omega)
            rw [← c, Int.toNat_natCast] at this
            exact .inl this
      · rcases h.zero h0 with c | c
        · exact .inl c
        · rcases List.mem_append.1 c with c | c
          · exact .inr c
          · have c := List.mem_singleton.1 c
            have := hx (by omega) (by omega)
            rw [← c] at this
            exact .inl this
    by_cases h1 : x < 0
    · obtain ⟨r, r1, r2⟩ := ih seen q (by omega) (by omega) (hskip (fun _ _ => by omega))
      exact ⟨r, hstep r (ev_pos h1 r1), r2⟩
    by_cases h2 : x ≥ (ss.length : Int)
    · obtain ⟨r, r1, r2⟩ := ih seen q (by omega) (by omega) (hskip (fun _ _ => by omega))
      exact ⟨r, hstep r (ev_neg h1 (ev_pos h2 r1)), r2⟩
    have hln := h.len
    by_cases h3 : seen.getD x.toNat false = true
    · obtain ⟨r, r1, r2⟩ := ih seen q (by omega) (by omega) (hskip (fun _ _ => h3))
      exact ⟨r, hstep r (ev_neg h1 (ev_neg h2 (ev_pos (by omega) (ev_pos (by omega) (ev_pos h3 r1))))), r2⟩
    · have hf : seen.getD x.toNat false = false := Bool.eq_false_iff.2 h3
      have hc := cntF_set seen x.toNat (by omega) hf
      have hrow := hl x.toNat (by omega)
      have hrch : Rch ss x.toNat := h.stk x (List.mem_append.2 (.inr (List.mem_singleton.2 rfl))) (by omega) (by omega)
      have hq : (q ++ rd_L1 ss x).length = q.length + (ss.getD x.toNat []).length := List.length_append
      obtain ⟨r, r1, r2⟩ := ih (seen.set x.toNat true) (q ++ rd_L1 ss x) (by omega) (by rw [hq]; exact reach_m hc hrow hle) (by
        refine ⟨by rw [List.length_set]; exact h.len, fun i hi => ?_, fun y hy y0 y1 => ?_, fun i hi j e => ?_, fun h0 => ?_⟩
        · rw [getD_setB] at hi
          split at hi
          · rename_i c; rw [← c.1]; exact hrch
          · exact h.sound i hi
        · rcases List.mem_append.1 hy with hy | hy
          · exact h.stk y (List.mem_append.2 (.inl hy)) y0 y1
          · have hy : y ∈ ss.getD x.toNat [] := hy
            refine Rch.step hrch ⟨by omega, by omega, ?_⟩
            rw [show ((y.toNat : Nat) : Int) = y by omega]
            exact hy
        · rw [getD_setB] at hi
          by_cases c : x.toNat = i ∧ i < seen.length
          · rw [← c.1] at e
            exact .inr (List.mem_append.2 (.inr e.2.2))
          · rw [if_neg c] at hi
            rcases h.closed i hi j e with c2 | c2
            · refine .inl ?_
              rw [getD_setB]
              split
              · rfl
              · exact c2
            · rcases List.mem_append.1 c2 with c3 | c3
              · exact .inr (List.mem_append.2 (.inl c3))
              · refine .inl ?_
                have c3 := List.mem_singleton.1 c3
                rw [getD_setB, if_pos ⟨by omega, by have := e.2.1; omega⟩]
        · rcases h.zero h0 with c2 | c2
          · refine .inl ?_
            rw [getD_setB]
            split
            · rfl
            · exact c2
          · rcases List.mem_append.1 c2 with c3 | c3
            · exact .inr (List.mem_append.2 (.inl c3))
            · refine .inl ?_
              have c3 := List.mem_singleton.1 c3
              rw [getD_setB, if_pos ⟨by omega, by omega⟩])
      refine ⟨r, hstep r (ev_neg h1 (ev_neg h2 (ev_pos (by omega) (ev_pos (by omega) (ev_neg (by rw [rdOfB]; exact h3) (ev_pos (by omega) (ev_pos ?_ r1))))))), r2⟩
      show q.length + (ss.getD x.toNat []).length < _
      omega
theorem reach_ev (ss : List (List Int)) (hn : ss.length ≤ 64) (hl : ∀ i, i < ss.length → (ss.getD i []).length ≤ 900000) : ∃ r : List Bool, Ev (fun k => cfg_Reach.f k ss) r ∧ r.length = ss.length ∧ ∀ i, i < ss.length → (r.getD i false = true ↔ Rch ss i) := by
  have h0 : ∀ i, (List.replicate ss.length false).getD i false = false := fun i => by
    rw [List.getD_eq_getElem?_getD, List.getElem?_replicate]; split <;> rfl
  obtain ⟨r, h1, h2, h3⟩ := reach_l0 ss hn hl 60000000 (List.replicate ss.length false) [0] (Nat.le_refl _) (by
    have := cntF_le (List.replicate ss.length false)
    rw [List.length_replicate] at this
    simp only [List.length_singleton]
    omega) ⟨List.length_replicate, fun i hi => (by rw [h0 i] at hi; cases hi), fun x hx hx0 hx1 => (by
      rw [List.mem_singleton.1 hx] at hx1 ⊢
      exact Rch.zero (by omega)), fun i hi => (by rw [h0 i] at hi; cases hi), fun _ => .inr (List.mem_singleton.2 rfl)⟩
  refine ⟨r, ?_, h2, h3⟩
  unfold cfg_Reach.f
  refine ev_pos (by omega) (ev_pos (by rw [Int.toNat_natCast]; omega) ?_)
  rw [Int.toNat_natCast]
  exact h1
end Go.Proofs.YtbnkeddnibjncaaDoor.Th
