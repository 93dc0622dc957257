import Derived.Test.YtbnkeddnibjncaaDoorRW
namespace Go.Proofs.YtbnkeddnibjncaaDoor.Th
set_option linter.unusedVariables false
set_option linter.unusedSectionVars false
open Go Go.RowKit Go.Proofs.YtbnkeddnibjncaaDoor.P Go.Proofs.YtbnkeddnibjncaaDoor.Opn Go.Proofs.YtbnkeddnibjncaaDoorW.PrintWords Go.Proofs.YtbnkeddnibjncaaDoorW.PrintLast Go.Proofs.YtbnkeddnibjncaaDoorW.PrintMore
/-! The document's Reach and Doms. -/
theorem Sb_nat (d : Nat) : Sb (d : Int) = (· = d) := by
  funext y
  unfold Sb
  exact propext ⟨fun h => by omega, fun h => by rw [h]⟩
theorem rreach_ev {ss : List (List Int)} (hg : Gok ss) : ∃ r : List Bool, Ev (fun k => interlockref10_Reach.f k ss) r ∧ r.length = ss.length ∧ ∀ i, i < ss.length → (r.getD i false = true ↔ Rch ss i) := by
  obtain ⟨r, r1, r2, r3⟩ := without_ev hg.n64 hg.rows (-1)
  refine ⟨r, ?_, r2, fun i hi => (r3 i hi).trans ⟨fun h => h.rch, fun h => h.weak (fun x c => by unfold Sb at c; omega)⟩⟩
  unfold interlockref10_Reach.f
  exact Ev.bind r1 (Ev.now _)
structure RI2 (ss : List (List Int)) (D i : Nat) (out : List Nat) : Prop where
  len : out.length = ss.length
  lt : ∀ q, fn out q < U
  bit : ∀ q, q < ss.length → ∀ e, e < 64 → ((fn out q).testBit e = true ↔ (e < D ∨ (e = D ∧ q < i)) ∧ Dom ss e q)
section
variable {ss : List (List Int)} (hg : Gok ss) {rc : List Bool} (hrl : rc.length = ss.length) (hrc : ∀ i, i < ss.length → (rc.getD i false = true ↔ Rch ss i))
theorem RI2.skip {D i : Nat} {out : List Nat} (h : RI2 ss D i out) (hd : ¬ Dom ss D i) : RI2 ss D (i + 1) out := by
  refine ⟨h.len, h.lt, fun q hq e he => ?_⟩
  rw [h.bit q hq e he]
  constructor
  · rintro ⟨a, b⟩
    exact ⟨by omega, b⟩
  · rintro ⟨a, b⟩
    refine ⟨?_, b⟩
    by_cases c : e = D ∧ q = i
    · rw [c.1, c.2] at b; exact absurd b hd
    · omega
theorem RI2.put {D i : Nat} {out : List Nat} (h : RI2 ss D i out) (hi : i < ss.length) (hD : D < 64) (hd : Dom ss D i) : RI2 ss D (i + 1) (out.set i (withN (fn out i) [(D : Int)])) := by
  have hl := h.len
  have ef : fn (out.set i (withN (fn out i) [(D : Int)])) = upd (fn out) i (withN (fn out i) [(D : Int)]) := fn_set out i _ (by omega)
  refine ⟨by rw [List.length_set]; exact hl, fun q => ?_, fun q hq e he => ?_⟩
  · rw [ef]
    unfold upd
    split
    · exact with_lt _ _ (h.lt i)
    · exact h.lt q
  · rw [ef]
    unfold upd
    split
    · rename_i c
      subst c
      rw [with_bit _ _ _ he, Bool.or_eq_true, h.bit q hq e he]
      have e1 : ([(D : Int)].contains (e : Int)) = true ↔ e = D := by simp; omega
      rw [e1]
      constructor
      · rintro (⟨a, b⟩ | a)
        · exact ⟨by omega, b⟩
        · rw [a]; exact ⟨by omega, hd⟩
      · rintro ⟨a, b⟩
        by_cases c : e = D
        · exact .inr c
        · exact .inl ⟨by omega, b⟩
    · rename_i c
      rw [h.bit q hq e he]
      constructor
      · rintro ⟨a, b⟩; exact ⟨by omega, b⟩
      · rintro ⟨a, b⟩; exact ⟨by omega, b⟩
theorem RI2.next {D : Nat} {out : List Nat} (h : RI2 ss D ss.length out) : RI2 ss (D + 1) 0 out := by
  refine ⟨h.len, h.lt, fun q hq e he => ?_⟩
  rw [h.bit q hq e he]
  constructor
  · rintro ⟨a, b⟩; exact ⟨by omega, b⟩
  · rintro ⟨a, b⟩; exact ⟨by omega, b⟩
include hg hrl hrc in
theorem rdoms_l1 (D : Nat) (hD : D < ss.length) (l : List Bool) (hl : WG ss (D : Int) l)
    (cont : ∀ out, RI2 ss (D + 1) 0 out → ∃ o, Ev (fun k => interlockref10_Doms.l0 k ss rc (IL out) ((D + 1 : Nat) : Int)) (IL o) ∧ RI2 ss ss.length 0 o) : ∀ (d i : Nat) (out : List Nat), i + d = ss.length → RI2 ss D i out →
    ∃ o, Ev (fun k => interlockref10_Doms.l1 k ss rc (IL out) (D : Int) l (i : Int)) (IL o) ∧ RI2 ss ss.length 0 o
  | 0, i, out, hi, h => by
    have hn := hg.n64
    obtain rfl : i = ss.length := by omega
    obtain ⟨o, o1, o2⟩ := cont out h.next
    exact ⟨o, Ev.step (f := fun k => _) (fun k => by
      simp only [interlockref10_Doms.l1]
      rw [if_neg (by omega), up D (by omega)]) o1, o2⟩
  | d + 1, i, out, hi, h => by
    have hn := hg.n64
    have hlt : i < ss.length := by omega
    have hlen := h.len
    have hll := hl.1
    have hili : (IL out).length = ss.length := by rw [IL_len, hlen]
    have hra := hl.2 i hlt
    rw [Sb_nat] at hra
    by_cases hr : rc.getD i false = true
    · by_cases ho : l.getD i false = true
      · obtain ⟨o, o1, o2⟩ := rdoms_l1 D hD l hl cont d (i + 1) out (by omega) (h.skip (fun c => c.2 (hra.1 ho)))
        exact ⟨o, Ev.step (f := fun k => _) (fun k => by
          simp only [interlockref10_Doms.l1]
          rw [if_pos (show (i : Int) < (ss.length : Int) by omega), if_pos (show 0 ≤ (i : Int) by omega), if_pos (show (i : Int) < (rc.length : Int) by omega), rdB, if_pos hr, if_pos (show (i : Int) < (l.length : Int) by omega), rdB, if_pos ho, up i (by omega)]) o1, o2⟩
      · obtain ⟨o, o1, o2⟩ := rdoms_l1 D hD l hl cont d (i + 1) _ (by omega) (h.put hlt (by omega) ⟨(hrc i hlt).1 hr, fun c => ho (hra.2 c)⟩)
        refine ⟨o, Ev.step (f := fun k => _) (fun k => by
          simp only [interlockref10_Doms.l1]
          rw [if_pos (show (i : Int) < (ss.length : Int) by omega), if_pos (show 0 ≤ (i : Int) by omega), if_pos (show (i : Int) < (rc.length : Int) by omega), rdB, if_pos hr, if_pos (show (i : Int) < (l.length : Int) by omega), rdB, if_neg ho, if_pos (show (i : Int) < ((IL out).length : Int) by omega), IL_rd, up i (by omega), Int.toNat_natCast]) ?_, o2⟩
        refine Ev.bind (rwith_ev [(D : Int)] (by simp) _ (h.lt i)) ?_
        rw [IL_set]
        exact o1
    · obtain ⟨o, o1, o2⟩ := rdoms_l1 D hD l hl cont d (i + 1) out (by omega) (h.skip (fun c => hr ((hrc i hlt).2 c.1)))
      exact ⟨o, Ev.step (f := fun k => _) (fun k => by
        simp only [interlockref10_Doms.l1]
        rw [if_pos (show (i : Int) < (ss.length : Int) by omega), if_pos (show 0 ≤ (i : Int) by omega), if_pos (show (i : Int) < (rc.length : Int) by omega), rdB, if_neg hr, up i (by omega)]) o1, o2⟩
include hg hrl hrc in
theorem rdoms_l0 : ∀ (d D : Nat) (out : List Nat), D + d = ss.length → RI2 ss D 0 out →
    ∃ o, Ev (fun k => interlockref10_Doms.l0 k ss rc (IL out) (D : Int)) (IL o) ∧ RI2 ss ss.length 0 o
  | 0, D, out, hD, h => by
    obtain rfl : D = ss.length := by omega
    exact ⟨out, Ev.step (f := fun _ => some (IL out)) (fun k => by
      simp only [interlockref10_Doms.l0]
      rw [if_neg (by omega)]) (Ev.now _), h⟩
  | d + 1, D, out, hD, h => by
    obtain ⟨l, l1, l2⟩ := without_ev hg.n64 hg.rows (D : Int)
    obtain ⟨o, o1, o2⟩ := rdoms_l1 hg hrl hrc D (by omega) l l2 (fun out' h' => rdoms_l0 d (D + 1) out' (by omega) h') ss.length 0 out (by omega) h
    exact ⟨o, Ev.step (f := fun k => _) (fun k => by
      simp only [interlockref10_Doms.l0]
      rw [if_pos (show (D : Int) < (ss.length : Int) by omega)]) (Ev.bind l1 o1), o2⟩
end
theorem rdoms_ev {ss : List (List Int)} (hg : Gok ss) : ∃ o : List Nat, Ev (fun k => interlockref10_Doms.f k ss) (IL o) ∧ o.length = ss.length ∧ (∀ j, fn o j < U) ∧ ∀ i, i < ss.length → ∀ d, d < 64 → ((fn o i).testBit d = true ↔ Dom ss d i) := by
  have hn := hg.n64
  obtain ⟨rc, r1, r2, r3⟩ := rreach_ev hg
  obtain ⟨o, o1, o2⟩ := rdoms_l0 hg r2 r3 ss.length 0 (List.replicate ss.length 0) (by omega) (by
    have h0 : ∀ q, fn (List.replicate ss.length 0) q = 0 := fun q => by
      unfold fn
      rw [List.getD_eq_getElem?_getD, List.getElem?_replicate]; split <;> rfl
    refine ⟨List.length_replicate, fun q => by rw [h0]; decide, fun q hq e he => ?_⟩
    rw [h0, Nat.zero_testBit]
    constructor
    · intro c; cases c
    · rintro ⟨a, _⟩; omega)
  refine ⟨o, ?_, o2.len, o2.lt, fun i hi d hd => ?_⟩
  · unfold interlockref10_Doms.f
    refine ev_neg (by omega) (Ev.bind r1 (ev_pos (by omega) (ev_pos (by rw [Int.toNat_natCast]; omega) ?_)))
    rw [Int.toNat_natCast]
    have e : List.replicate ss.length (0 : Int) = IL (List.replicate ss.length 0) := by unfold IL; rw [List.map_replicate]; rfl
    rw [e]
    exact o1
  · rw [o2.bit i hi d hd]
    exact ⟨fun c => c.2, fun c => ⟨.inl c.lt, c⟩⟩
open Classical in
theorem loops_has (ss : List (List Int)) : ∀ (d h0 h : Nat), h0 ≤ h → h < h0 + d → Head ss h → (⟨(h : Int), bodyL ss h⟩ : S35) ∈ loopsFrom ss d h0
  | 0, h0, h, a, b, _ => by omega
  | d + 1, h0, h, a, b, k => by
    simp only [loopsFrom]
    rw [List.mem_append]
    by_cases e : h = h0
    · subst e
      exact .inl (by rw [if_pos k]; exact List.mem_singleton.2 rfl)
    · exact .inr (loops_has ss d (h0 + 1) h (by omega) (by omega) k)
theorem rdT (L : List S35) (i : Nat) (hi : i < L.length) : rd_T35 L (i : Int) ∈ L := by
  unfold rd_T35
  rw [Int.toNat_natCast, List.getD_eq_getElem?_getD, List.getElem?_eq_getElem hi]
  exact List.getElem_mem hi
theorem rdT_get (L : List S35) (M : S35) (h : M ∈ L) : ∃ i, i < L.length ∧ rd_T35 L (i : Int) = M := by
  obtain ⟨i, hi, rfl⟩ := List.mem_iff_getElem.1 h
  refine ⟨i, hi, ?_⟩
  unfold rd_T35
  rw [Int.toNat_natCast, List.getD_eq_getElem?_getD, List.getElem?_eq_getElem hi]; rfl
end Go.Proofs.YtbnkeddnibjncaaDoor.Th
