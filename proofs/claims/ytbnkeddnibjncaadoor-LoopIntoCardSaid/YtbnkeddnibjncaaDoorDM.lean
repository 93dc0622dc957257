import Derived.Test.YtbnkeddnibjncaaDoorRC
namespace Go.Proofs.YtbnkeddnibjncaaDoor.Th
set_option linter.unusedVariables false
open Go Go.RowKit Go.Proofs.YtbnkeddnibjncaaDoor.P Go.Proofs.YtbnkeddnibjncaaDoor.Opn Go.Proofs.YtbnkeddnibjncaaDoorW.PrintWords Go.Proofs.YtbnkeddnibjncaaDoorW.PrintLast Go.Proofs.YtbnkeddnibjncaaDoorW.PrintMore
/-! cfg.Doms: what each place can not be come to without. -/
def IL (l : List Nat) : List Int := l.map (fun x : Nat => (x : Int))
theorem IL_len (l : List Nat) : (IL l).length = l.length := List.length_map _
theorem IL_rd (l : List Nat) (k : Nat) : rd (IL l) (k : Int) = (fn l k : Int) := by
  rw [rd_nat]
  unfold IL fn
  rw [List.getD_eq_getElem?_getD, List.getD_eq_getElem?_getD, List.getElem?_map]
  cases l[k]? <;> rfl
theorem IL_set (l : List Nat) (i v : Nat) : (IL l).set i (v : Int) = IL (l.set i v) := by unfold IL; rw [List.map_set]
def dS (rc : List Bool) (out : List Nat) (s : Nat) (ps : List Int) : Nat := ps.foldl (fun s p => if rc.getD p.toNat false = true then s &&& fn out p.toNat else s) s
theorem dS_lt (rc : List Bool) (out : List Nat) : ∀ (ps : List Int) (s : Nat), s < U → dS rc out s ps < U
  | [], s, h => h
  | p :: ps, s, h => by
    show dS rc out (if rc.getD p.toNat false = true then s &&& fn out p.toNat else s) ps < U
    refine dS_lt rc out ps _ ?_
    split
    · exact Nat.lt_of_le_of_lt Nat.and_le_left h
    · exact h
theorem domS_nat (rc : List Bool) (out : List Nat) (ho : ∀ j, fn out j < U) : ∀ (ps : List Int) (s : Nat), s < U → (∀ p ∈ ps, 0 ≤ p) → domS rc (IL out) (s : Int) ps = (dS rc out s ps : Int)
  | [], s, _, _ => rfl
  | p :: ps, s, hs, hp => by
    have h0 := hp p List.mem_cons_self
    have ih := domS_nat rc out ho ps
    show domS rc (IL out) (if rc.getD p.toNat false = true then Go.bits .and .u64 (s : Int) (rd (IL out) p) else (s : Int)) ps = (dS rc out (if rc.getD p.toNat false = true then s &&& fn out p.toNat else s) ps : Int)
    by_cases h : rc.getD p.toNat false = true
    · rw [if_pos h, if_pos h]
      have e : rd (IL out) p = (fn out p.toNat : Int) := by
        rw [← IL_rd, show ((p.toNat : Nat) : Int) = p by omega]
      rw [e, and_nat s _ hs (ho _)]
      exact ih _ (Nat.lt_of_le_of_lt Nat.and_le_left hs) (fun q hq => hp q (List.mem_cons_of_mem _ hq))
    · rw [if_neg h, if_neg h]
      exact ih _ hs (fun q hq => hp q (List.mem_cons_of_mem _ hq))
theorem dS_bit (rc : List Bool) (out : List Nat) (d : Nat) : ∀ (ps : List Int) (s : Nat), (dS rc out s ps).testBit d = true ↔ s.testBit d = true ∧ ∀ p ∈ ps, rc.getD p.toNat false = true → (fn out p.toNat).testBit d = true
  | [], s => by
    show s.testBit d = true ↔ _
    simp
  | p :: ps, s => by
    show (dS rc out (if rc.getD p.toNat false = true then s &&& fn out p.toNat else s) ps).testBit d = true ↔ _
    rw [dS_bit rc out d ps]
    by_cases h : rc.getD p.toNat false = true
    · rw [if_pos h, Nat.testBit_and, Bool.and_eq_true]
      constructor
      · rintro ⟨⟨a, b⟩, c⟩
        refine ⟨a, fun q hq hr => ?_⟩
        rcases List.mem_cons.1 hq with rfl | hq
        · exact b
        · exact c q hq hr
      · rintro ⟨a, b⟩
        exact ⟨⟨a, b p List.mem_cons_self h⟩, fun q hq => b q (List.mem_cons_of_mem _ hq)⟩
    · rw [if_neg h]
      constructor
      · rintro ⟨a, b⟩
        refine ⟨a, fun q hq hr => ?_⟩
        rcases List.mem_cons.1 hq with rfl | hq
        · exact absurd hr h
        · exact b q hq hr
      · rintro ⟨a, b⟩
        exact ⟨a, fun q hq => b q (List.mem_cons_of_mem _ hq)⟩
set_option linter.unusedSectionVars false
section
variable {ss : List (List Int)} {rc : List Bool} (hrl : rc.length = ss.length) (hrc : ∀ i, i < ss.length → (rc.getD i false = true ↔ Rch ss i)) (hn : ss.length ≤ 64)
/-- What a place's set is made to be. -/
def nv (ss : List (List Int)) (rc : List Bool) (out : List Nat) (i : Nat) : Nat := withN (dS rc out (allN (ss.length : Int)) ((preds ss).getD i [])) [(i : Int)]
theorem nv_lt (out : List Nat) (i : Nat) : nv ss rc out i < U := with_lt _ _ (dS_lt _ _ _ _ (allN_lt _))
include hrc hn in
theorem nv_bit (out : List Nat) (i : Nat) (hi : i < ss.length) (d : Nat) (hd : d < 64) : (nv ss rc out i).testBit d = true ↔ d = i ∨ (d < ss.length ∧ ∀ p, Edge ss p i → Rch ss p → (fn out p).testBit d = true) := by
  unfold nv
  rw [with_bit _ _ _ hd, Bool.or_eq_true, dS_bit, allN_bit _ _ hd]
  have e : ([(i : Int)].contains (d : Int)) = true ↔ d = i := by simp; omega
  rw [e]
  constructor
  · rintro (⟨a, b⟩ | a)
    · refine .inr ⟨by simpa using a, fun p he hr => ?_⟩
      have := b (p : Int) ((preds_mem ss i _).2 ⟨p, he.1, rfl, he.2.2, hi⟩) (by rw [Int.toNat_natCast]; exact (hrc p he.1).2 hr)
      rwa [Int.toNat_natCast] at this
    · exact .inl a
  · rintro (a | ⟨a, b⟩)
    · exact .inr a
    · refine .inl ⟨by simpa using a, fun p hp hr => ?_⟩
      obtain ⟨m, hm, rfl, h3, _⟩ := (preds_mem ss i p).1 hp
      rw [Int.toNat_natCast] at hr ⊢
      exact b m ⟨hm, hi, h3⟩ ((hrc m hm).1 hr)
structure DI (ss : List (List Int)) (rc : List Bool) (out : List Nat) : Prop where
  len : out.length = ss.length
  lt : ∀ j, fn out j < U
  top : ∀ i, Rch ss i → ∀ d, Dom ss d i → (fn out i).testBit d = true
  zero : 0 < ss.length → fn out 0 = 1
  low : ∀ i, 0 < i → i < ss.length → Rch ss i → Le true (fn out i) (nv ss rc out i)
theorem le_true {a b : Nat} : Le true a b ↔ ∀ d, d < 64 → b.testBit d = true → a.testBit d = true := by
  unfold Le
  simp
include hrc hn in
theorem nv_mono {out out' : List Nat} (h : ∀ j, Le true (fn out j) (fn out' j)) (i : Nat) (hi : i < ss.length) : Le true (nv ss rc out i) (nv ss rc out' i) := by
  rw [le_true]
  intro d hd
  rw [nv_bit hrc hn out' i hi d hd, nv_bit hrc hn out i hi d hd]
  rintro (a | ⟨a, b⟩)
  · exact .inl a
  · exact .inr ⟨a, fun p he hr => le_true.1 (h p) d hd (b p he hr)⟩
include hrc hn in
theorem DI.put {out : List Nat} (h : DI ss rc out) (i : Nat) (h0 : 0 < i) (hi : i < ss.length) (hr : Rch ss i) : DI ss rc (out.set i (nv ss rc out i)) := by
  have hl := h.len
  have ef : fn (out.set i (nv ss rc out i)) = upd (fn out) i (nv ss rc out i) := fn_set out i _ (by omega)
  have hle : ∀ j, Le true (fn out j) (fn (out.set i (nv ss rc out i)) j) := fun j => by
    rw [ef]
    unfold upd
    split
    · rename_i e; subst e; exact h.low j h0 hi hr
    · exact Le.refl _ _
  refine ⟨by rw [List.length_set]; exact hl, fun j => ?_, fun j hj d hd => ?_, fun hz => ?_, fun j j0 j1 jr => ?_⟩
  · rw [ef]
    unfold upd
    split
    · exact nv_lt _ _
    · exact h.lt j
  · rw [ef]
    unfold upd
    split
    · rename_i e; subst e
      have hd64 : d < 64 := by have := hd.lt; omega
      rw [nv_bit hrc hn out j hi d hd64]
      by_cases e : d = j
      · exact .inl e
      · exact .inr ⟨hd.lt, fun p he hp => h.top p hp d (hd.pred e hp he)⟩
    · exact h.top j hj d hd
  · rw [ef]
    unfold upd
    rw [if_neg (by omega)]
    exact h.zero hz
  · have h1 := nv_mono hrc hn hle j j1
    by_cases e : j = i
    · subst e
      rw [show fn (out.set j (nv ss rc out j)) j = nv ss rc out j by rw [ef]; unfold upd; rw [if_pos rfl]]
      exact h1
    · rw [show fn (out.set i (nv ss rc out i)) j = fn out j by rw [ef]; unfold upd; rw [if_neg e]]
      exact (h.low j j0 j1 jr).trans h1
include hrc hn in
/-- Where nothing changes any more, it is what can not be done without. -/
theorem DI.fix {out : List Nat} (h : DI ss rc out) (hf : ∀ j, 0 < j → j < ss.length → Rch ss j → nv ss rc out j = fn out j) (i : Nat) (hi : Rch ss i) (d : Nat) (hd : d < 64) : (fn out i).testBit d = true ↔ Dom ss d i := by
  refine ⟨fun hb => ⟨hi, fun hra => ?_⟩, fun hdm => h.top i hi d hdm⟩
  have key : ∀ x, RA ss (· = d) x → ¬ (fn out x).testBit d = true := by
    intro x hx
    induction hx with
    | zero h0 h1 =>
      rw [h.zero h0]
      intro c
      have : (1 : Nat).testBit d = decide (d = 0) := by
        have := Nat.testBit_two_pow (n := 0) (m := d)
        simpa [eq_comm] using this
      rw [this] at c
      exact h1 (of_decide_eq_true c).symm
    | @step p x hp he hne ih =>
      intro c
      by_cases hx0 : x = 0
      · subst hx0
        rw [h.zero he.2.1] at c
        have : (1 : Nat).testBit d = decide (d = 0) := by
          have := Nat.testBit_two_pow (n := 0) (m := d)
          simpa [eq_comm] using this
        rw [this] at c
        exact hne (of_decide_eq_true c).symm
      · rw [← hf x (by omega) he.2.1 (hp.rch.step he), nv_bit hrc hn out x he.2.1 d hd] at c
        rcases c with c | c
        · exact hne c.symm
        · exact ih (c.2 p he hp.rch)
  exact key i hra hb
include hrl hrc hn in
theorem domPass_ev {out : List Nat} (h : DI ss rc out) : ∀ (d i : Nat), i + d = ss.length → 1 ≤ i →
    (Ev (fun k => domPass k rc (preds ss) (allN (ss.length : Int) : Int) d i (IL out)) (false, IL out) ∧ ∀ j, i ≤ j → j < ss.length → Rch ss j → nv ss rc out j = fn out j) ∨
    (∃ j, 1 ≤ j ∧ j < ss.length ∧ Rch ss j ∧ nv ss rc out j ≠ fn out j ∧ Ev (fun k => domPass k rc (preds ss) (allN (ss.length : Int) : Int) d i (IL out)) (true, IL (out.set j (nv ss rc out j))))
  | 0, i, hi, h1 => .inl ⟨Ev.now _, fun j a b _ => by omega⟩
  | d + 1, i, hi, h1 => by
    have hlt : i < ss.length := by omega
    have hpn : ∀ p ∈ (preds ss).getD i [], 0 ≤ p := fun p hp => by
      obtain ⟨m, _, rfl, _⟩ := (preds_mem ss i p).1 hp
      omega
    have hw : Ev (fun k => bits_With.f k (domS rc (IL out) (allN (ss.length : Int) : Int) ((preds ss).getD i [])) [(i : Int)]) (nv ss rc out i : Int) := by
      rw [domS_nat rc out h.lt _ _ (allN_lt _) hpn]
      exact with_ev [(i : Int)] (by simp) _ (dS_lt _ _ _ _ (allN_lt _))
    by_cases hr : rc.getD i false = true
    · by_cases he : nv ss rc out i = fn out i
      · have he' : ((nv ss rc out i : Nat) : Int) = rd (IL out) (i : Int) := by rw [IL_rd, he]
        rcases domPass_ev h d (i + 1) (by omega) (by omega) with ⟨a, b⟩ | ⟨j, j1, j2, j3, j4, j5⟩
        · refine .inl ⟨?_, fun j q1 q2 q3 => ?_⟩
          · simp only [domPass]
            exact ev_pos hr (Ev.bind hw (ev_pos he' a))
          · by_cases e : j = i
            · subst e; exact he
            · exact b j (by omega) q2 q3
        · refine .inr ⟨j, j1, j2, j3, j4, ?_⟩
          simp only [domPass]
          exact ev_pos hr (Ev.bind hw (ev_pos he' j5))
      · refine .inr ⟨i, h1, hlt, (hrc i hlt).1 hr, he, ?_⟩
        simp only [domPass]
        refine ev_pos hr (Ev.bind hw (ev_neg (by rw [IL_rd]; omega) ?_))
        rw [IL_set]
        exact Ev.now _
    · rcases domPass_ev h d (i + 1) (by omega) (by omega) with ⟨a, b⟩ | ⟨j, j1, j2, j3, j4, j5⟩
      · refine .inl ⟨?_, fun j q1 q2 q3 => ?_⟩
        · simp only [domPass]
          exact ev_neg hr a
        · by_cases e : j = i
          · subst e; exact absurd ((hrc j hlt).2 q3) hr
          · exact b j (by omega) q2 q3
      · refine .inr ⟨j, j1, j2, j3, j4, ?_⟩
        simp only [domPass]
        exact ev_neg hr j5
include hrl hrc hn in
theorem domsR_ev : ∀ (m : Nat) (out : List Nat), DI ss rc out → remL true out ≤ m → ∃ o, DI ss rc o ∧ (∀ j, 0 < j → j < ss.length → Rch ss j → nv ss rc o j = fn o j) ∧ Ev (fun k => domsR k rc (preds ss) (allN (ss.length : Int) : Int) ss.length (m + 1) (IL out)) (IL o) := by
  intro m
  induction m with
  | zero =>
    intro out h hm
    by_cases h0 : ss.length = 0
    · refine ⟨out, h, fun j a b => by omega, ?_⟩
      simp only [domsR]
      have hz : ss.length - 1 = 0 := by omega
      rw [hz]
      exact Ev.bind (a := (false, IL out)) (Ev.now _) (ev_neg (fun c => by cases c) (Ev.now _))
    rcases domPass_ev hrl hrc hn h (ss.length - 1) 1 (by omega) (Nat.le_refl _) with ⟨a, b⟩ | ⟨j, j1, j2, j3, j4, j5⟩
    · refine ⟨out, h, fun j q1 q2 q3 => b j q1 q2 q3, ?_⟩
      simp only [domsR]
      exact Ev.bind a (ev_neg (fun c => by cases c) (Ev.now _))
    · have hs := remL_set true out j (nv ss rc out j) (by rw [h.len]; exact j2)
      have hlt := remN_lt (h.lt j) (nv_lt _ _) (h.low j j1 j2 j3) (fun e => j4 e.symm)
      omega
  | succ m ih =>
    intro out h hm
    by_cases h0 : ss.length = 0
    · refine ⟨out, h, fun j a b => by omega, ?_⟩
      simp only [domsR]
      have hz : ss.length - 1 = 0 := by omega
      rw [hz]
      exact Ev.bind (a := (false, IL out)) (Ev.now _) (ev_neg (fun c => by cases c) (Ev.now _))
    rcases domPass_ev hrl hrc hn h (ss.length - 1) 1 (by omega) (Nat.le_refl _) with ⟨a, b⟩ | ⟨j, j1, j2, j3, j4, j5⟩
    · refine ⟨out, h, fun j q1 q2 q3 => b j q1 q2 q3, ?_⟩
      simp only [domsR]
      exact Ev.bind a (ev_neg (fun c => by cases c) (Ev.now _))
    · have hs := remL_set true out j (nv ss rc out j) (by rw [h.len]; exact j2)
      have hlt := remN_lt (h.lt j) (nv_lt _ _) (h.low j j1 j2 j3) (fun e => j4 e.symm)
      obtain ⟨o, o1, o2, o3⟩ := ih (out.set j (nv ss rc out j)) (h.put hrc hn j j1 j2 j3) (by omega)
      refine ⟨o, o1, o2, ?_⟩
      simp only [domsR] at o3 ⊢
      exact Ev.bind j5 (ev_pos rfl o3)
end
end Go.Proofs.YtbnkeddnibjncaaDoor.Th
