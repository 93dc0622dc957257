import Derived.Test.YticdodbnjlnjlaaSA
import Derived.Test.YticdodbnjlnjlaaPx7
namespace Go.Proofs.Yticdodbnjlnjlaa.Th
set_option linter.unusedVariables false
open Go Go.RowKit Go.Proofs.Yticdodbnjlnjlaa.P Go.Proofs.Yticdodbnjlnjlaa.Opn Go.Proofs.YticdodbnjlnjlaaW.PrintWords Go.Proofs.YticdodbnjlnjlaaW.PrintLast Go.Proofs.YticdodbnjlnjlaaW.PrintMore
/-! Two side by side change places: rows, and what the program does with them. -/
theorem split_two {α : Type} (l : List α) (i : Nat) (h1 : 1 ≤ i) (h2 : i < l.length) : ∃ p x y q, l = p ++ x :: y :: q ∧ p.length + 1 = i := by
  refine ⟨l.take (i - 1), l[i - 1], l[i], l.drop (i + 1), ?_, by rw [List.length_take]; omega⟩
  have e1 : l.drop (i - 1) = l[i - 1] :: l.drop (i - 1 + 1) := List.drop_eq_getElem_cons (by omega)
  have e2 : l.drop i = l[i] :: l.drop (i + 1) := List.drop_eq_getElem_cons h2
  rw [← e2, show l.drop i = l.drop (i - 1 + 1) by rw [show i - 1 + 1 = i by omega], ← e1, List.take_append_drop]
theorem swapL_split {α : Type} (z : α) (x y : α) (q : List α) : ∀ p : List α, swapL z (p ++ x :: y :: q) (p.length + 1) = p ++ y :: x :: q
  | [] => rfl
  | a :: p => by
    have ih := swapL_split z x y q p
    unfold swapL at ih ⊢
    rw [Nat.add_sub_cancel] at ih
    show a :: (((p ++ x :: y :: q).set p.length _).set (p.length + 1) _) = a :: (p ++ y :: x :: q)
    congr 1
theorem getD_at0 {α : Type} (z x y : α) (q : List α) : ∀ p : List α, (p ++ x :: y :: q).getD p.length z = x
  | [] => rfl
  | a :: p => getD_at0 z x y q p
theorem getD_at1 {α : Type} (z x y : α) (q : List α) : ∀ p : List α, (p ++ x :: y :: q).getD (p.length + 1) z = y
  | [] => rfl
  | a :: p => getD_at1 z x y q p
theorem getD_pre {α : Type} (z : α) (q q' : List α) : ∀ (p : List α) (j : Nat), j < p.length → (p ++ q).getD j z = (p ++ q').getD j z
  | [], j, h => by simp at h
  | a :: p, 0, _ => rfl
  | a :: p, j + 1, h => getD_pre z q q' p j (by simpa using h)
theorem getD_post {α : Type} (z x y x' y' : α) (q : List α) : ∀ (p : List α) (j : Nat), p.length + 2 ≤ j → (p ++ x :: y :: q).getD j z = (p ++ x' :: y' :: q).getD j z
  | [], 0, h => by simp at h
  | [], 1, h => by simp at h
  | [], j + 2, _ => rfl
  | a :: p, 0, h => by simp at h
  | a :: p, j + 1, h => getD_post z x y x' y' q p j (by simp at h; omega)
theorem swapL_getD {α : Type} (z : α) (l : List α) (i : Nat) (h1 : 1 ≤ i) (h2 : i < l.length) (j : Nat) : (swapL z l i).getD j z = if j = i then l.getD (i - 1) z else if j = i - 1 then l.getD i z else l.getD j z := by
  obtain ⟨p, x, y, q, rfl, rfl⟩ := split_two l i h1 h2
  rw [swapL_split, Nat.add_sub_cancel, getD_at0, getD_at1]
  by_cases e1 : j = p.length + 1
  · rw [if_pos e1, e1, getD_at1]
  · rw [if_neg e1]
    by_cases e2 : j = p.length
    · rw [if_pos e2, e2, getD_at0]
    · rw [if_neg e2]
      rcases Nat.lt_or_ge j p.length with h | h
      · exact getD_pre z _ _ p j h
      · exact getD_post z _ _ _ _ q p j (by omega)
theorem swapL_mem {α : Type} (z : α) (l : List α) (i : Nat) (h1 : 1 ≤ i) (h2 : i < l.length) (a : α) : a ∈ swapL z l i ↔ a ∈ l := by
  obtain ⟨p, x, y, q, rfl, rfl⟩ := split_two l i h1 h2
  rw [swapL_split]
  simp only [List.mem_append, List.mem_cons]
  exact ⟨fun h => h.elim .inl (fun h => .inr (h.elim (fun h => .inr (.inl h)) (fun h => h.elim .inl (fun h => .inr (.inr h))))), fun h => h.elim .inl (fun h => .inr (h.elim (fun h => .inr (.inl h)) (fun h => h.elim .inl (fun h => .inr (.inr h)))))⟩
/-- Do the two at i - 1 and i change places? -/
def swB (hs : List Bool) (now : List S33) (i : Nat) : Bool := !hs.getD i false && (decide (rankN (now.getD i z33).f0 < rankN (now.getD (i - 1) z33).f0) && apB (now.getD (i - 1) z33) (now.getD i z33))
theorem OpsOK.getD {c : List S33} (h : OpsOK c) {i : Nat} (hi : i < c.length) : 0 ≤ (c.getD i z33).f0 ∧ (c.getD i z33).f0 ≤ 255 := by
  refine h _ ?_
  rw [List.getD_eq_getElem?_getD, List.getElem?_eq_getElem hi]
  exact List.getElem_mem hi
theorem OpsOK.swapL {c : List S33} (h : OpsOK c) {i : Nat} (h1 : 1 ≤ i) (hi : i < c.length) : OpsOK (swapL z33 c i) := fun x hx => h x ((swapL_mem _ _ _ h1 hi _).1 hx)
section
variable (hs : List Bool) (now : List S33) (fr : List Int) (i : Nat) (hO : OpsOK now) (h1 : 1 ≤ i) (hi : i < now.length) {res : List S33 × List Int}
include hO h1 hi in
theorem l0_no (hb : swB hs now i = false) (h : Ev (fun k => swap_Code.l0 k hs now fr (i + 1)) res) : Ev (fun k => swap_Code.l0 k hs now fr i) res := by
  refine Ev.step (fun k => by simp only [swap_Code.l0]; exact rfl) (ev_pos hi ?_)
  unfold swB at hb
  cases hh : hs.getD i false with
  | true => exact ev_pos rfl h
  | false =>
    refine ev_neg (by decide) ?_
    rw [hh] at hb
    by_cases hr : rankN (now.getD (i - 1) z33).f0 ≤ rankN (now.getD i z33).f0
    · exact ev_pos hr h
    · refine ev_neg hr ?_
      rw [decide_eq_true (by omega)] at hb
      have hb : apB (now.getD (i - 1) z33) (now.getD i z33) = false := by simpa using hb
      refine Ev.bind (apart_ev _ _ (hO.getD (by omega)) (hO.getD hi)) ?_
      rw [hb]
      exact ev_neg (by decide) h
include hO h1 hi in
theorem l0_yes (hb : swB hs now i = true) (h : Ev (fun k => swap_Code.l0 k hs (swapL z33 now i) (swapL 0 fr i) (max (i - 1) 1)) res) : Ev (fun k => swap_Code.l0 k hs now fr i) res := by
  refine Ev.step (fun k => by simp only [swap_Code.l0]; exact rfl) (ev_pos hi ?_)
  unfold swB at hb
  simp only [Bool.and_eq_true, Bool.not_eq_true', decide_eq_true_eq] at hb
  obtain ⟨b1, b2, b3⟩ := hb
  rw [b1]
  refine ev_neg (by decide) (ev_neg (by omega) ?_)
  refine Ev.bind (apart_ev _ _ (hO.getD (by omega)) (hO.getD hi)) ?_
  rw [b3]
  exact ev_pos rfl h
end
theorem l0_end (hs : List Bool) (now : List S33) (fr : List Int) (i : Nat) (hi : ¬ i < now.length) : Ev (fun k => swap_Code.l0 k hs now fr i) (now, fr) :=
  Ev.step (fun k => by simp only [swap_Code.l0]; exact rfl) (ev_neg hi (Ev.now _))
/-- What the chapter does: the first two that may change places do, till there are none. -/
inductive Run (hs : List Bool) : List S33 → List Int → List S33 × List Int → Prop
  | done {now fr} (h : ∀ i, 1 ≤ i → i < now.length → swB hs now i = false) : Run hs now fr (now, fr)
  | step {now fr res} (i : Nat) (h1 : 1 ≤ i) (hi : i < now.length) (hb : swB hs now i = true) (hf : ∀ j, 1 ≤ j → j < i → swB hs now j = false) (h : Run hs (swapL z33 now i) (swapL 0 fr i) res) : Run hs now fr res
theorem swB_before {hs : List Bool} {now : List S33} {i j : Nat} (h1 : 1 ≤ i) (hi : i < now.length) (hj : j < i - 1) : swB hs (swapL z33 now i) j = swB hs now j := by
  unfold swB
  rw [swapL_getD _ _ _ h1 hi, swapL_getD _ _ _ h1 hi, if_neg (by omega), if_neg (by omega), if_neg (by omega), if_neg (by omega)]
theorem walk_to (hs : List Bool) (now : List S33) (fr : List Int) (hO : OpsOK now) {res : List S33 × List Int} (m : Nat) (hm : m ≤ now.length) (hf : ∀ j, 1 ≤ j → j < m → swB hs now j = false) (h : Ev (fun k => swap_Code.l0 k hs now fr m) res) :
    ∀ (d i : Nat), i + d = m → 1 ≤ i → Ev (fun k => swap_Code.l0 k hs now fr i) res
  | 0, i, e, _ => by
    have e : i = m := by omega
    subst e; exact h
  | d + 1, i, e, h1 => l0_no hs now fr i hO h1 (by omega) (hf i h1 (by omega)) (walk_to hs now fr hO m hm hf h d (i + 1) (by omega) (by omega))
theorem run_code {hs : List Bool} {now : List S33} {fr : List Int} {res : List S33 × List Int} (h : Run hs now fr res) (hO : OpsOK now) : ∀ i, 1 ≤ i → (∀ j, 1 ≤ j → j < i → swB hs now j = false) → Ev (fun k => swap_Code.l0 k hs now fr i) res := by
  induction h with
  | @done now fr hd =>
    intro i h1 _
    by_cases hi : i < now.length
    · exact walk_to hs now fr hO now.length (Nat.le_refl _) hd (l0_end hs now fr now.length (by omega)) (now.length - i) i (by omega) h1
    · exact l0_end hs now fr i hi
  | @step now fr res m hm1 hm hb hf hr ih =>
    intro i h1 hbef
    have him : i ≤ m := by
      rcases Nat.lt_or_ge m i with h | h
      · have := hbef m hm1 h; rw [this] at hb; cases hb
      · exact h
    refine walk_to hs now fr hO m (by omega) hf (l0_yes hs now fr m hO hm1 hm hb (ih (hO.swapL hm1 hm) _ (by omega) (fun j h2 h3 => ?_))) (m - i) i (by omega) h1
    rw [swB_before hm1 hm (by omega)]
    exact hf j h2 (by omega)
/-! It comes to an end. -/
def rkN (x : S33) : Nat := (rankN x.f0).toNat
theorem rank_range (x : Int) : 0 ≤ rankN x ∧ rankN x ≤ 3 := by
  unfold rankN
  split
  · omega
  · split
    · omega
    · split <;> omega
theorem rkN_eq (x : S33) : (rkN x : Int) = rankN x.f0 := by have := rank_range x.f0; unfold rkN; omega
def phi : List S33 → Nat → Nat
  | [], _ => 0
  | x :: l, k => k * rkN x + phi l (k + 1)
theorem phi_le : ∀ (l : List S33) (k : Nat), phi l k ≤ l.length * (3 * (k + l.length))
  | [], _ => by unfold phi; omega
  | x :: l, k => by
    have ih := phi_le l (k + 1)
    have hr : rkN x ≤ 3 := by have := rank_range x.f0; have := rkN_eq x; omega
    unfold phi
    have h1 : k * rkN x ≤ k * 3 := Nat.mul_le_mul_left k hr
    have e1 : (x :: l).length = l.length + 1 := rfl
    rw [e1, Nat.add_mul]
    have e2 : k + (l.length + 1) = k + 1 + l.length := by omega
    rw [e2]
    omega
theorem phi_app : ∀ (p q : List S33) (k : Nat), phi (p ++ q) k = phi p k + phi q (k + p.length)
  | [], q, k => by simp [phi]
  | x :: p, q, k => by
    show k * rkN x + phi (p ++ q) (k + 1) = (k * rkN x + phi p (k + 1)) + phi q (k + (p.length + 1))
    rw [phi_app p q (k + 1), show k + (p.length + 1) = k + 1 + p.length by omega]
    omega
theorem phi_swap (l : List S33) (i : Nat) (h1 : 1 ≤ i) (h2 : i < l.length) (hr : rankN (l.getD i z33).f0 < rankN (l.getD (i - 1) z33).f0) : phi l 0 < phi (swapL z33 l i) 0 := by
  obtain ⟨p, x, y, q, rfl, rfl⟩ := split_two l i h1 h2
  rw [Nat.add_sub_cancel, getD_at0, getD_at1, ← rkN_eq, ← rkN_eq] at hr
  rw [swapL_split, phi_app, phi_app]
  simp only [phi, Nat.add_mul, Nat.one_mul, Nat.zero_add]
  omega
theorem run_ends (hs : List Bool) : ∀ (d : Nat) (now : List S33) (fr : List Int), now.length * (3 * (0 + now.length)) - phi now 0 ≤ d → ∃ res, Run hs now fr res := by
  intro d
  induction d with
  | zero =>
    intro now fr hd
    refine ⟨_, Run.done (fun i h1 hi => ?_)⟩
    cases hb : swB hs now i with
    | false => rfl
    | true =>
      have hr : rankN (now.getD i z33).f0 < rankN (now.getD (i - 1) z33).f0 := by
        unfold swB at hb; simp only [Bool.and_eq_true, decide_eq_true_eq] at hb; exact hb.2.1
      have h3 := phi_swap now i h1 hi hr
      have h4 := phi_le (swapL z33 now i) 0
      rw [swapL_length] at h4
      omega
  | succ d ih =>
    intro now fr hd
    by_cases hex : ∃ i, 1 ≤ i ∧ i < now.length ∧ swB hs now i = true
    · have key : ∀ n, (∃ i, 1 ≤ i ∧ i < n ∧ i < now.length ∧ swB hs now i = true) → ∃ i, 1 ≤ i ∧ i < now.length ∧ swB hs now i = true ∧ ∀ j, 1 ≤ j → j < i → swB hs now j = false := by
        intro n
        induction n with
        | zero => rintro ⟨i, _, h, _⟩; omega
        | succ n ihn =>
          rintro ⟨i, h1, h2, h3, h4⟩
          by_cases hlow : ∃ i, 1 ≤ i ∧ i < n ∧ i < now.length ∧ swB hs now i = true
          · exact ihn hlow
          · have e : i = n := by
              rcases Nat.lt_or_ge i n with h | h
              · exact absurd ⟨i, h1, h, h3, h4⟩ hlow
              · omega
            subst e
            refine ⟨i, h1, h3, h4, fun j h5 h6 => ?_⟩
            cases hj : swB hs now j with
            | false => rfl
            | true => exact absurd ⟨j, h5, h6, by omega, hj⟩ hlow
      obtain ⟨i, h1, hi, hb, hf⟩ := key now.length (by obtain ⟨i, a, b, c⟩ := hex; exact ⟨i, a, b, b, c⟩)
      have hr : rankN (now.getD i z33).f0 < rankN (now.getD (i - 1) z33).f0 := by
        unfold swB at hb; simp only [Bool.and_eq_true, decide_eq_true_eq] at hb; exact hb.2.1
      have h3 := phi_swap now i h1 hi hr
      obtain ⟨res, h⟩ := ih (swapL z33 now i) (swapL 0 fr i) (by rw [swapL_length]; omega)
      exact ⟨res, Run.step i h1 hi hb hf h⟩
    · refine ⟨_, Run.done (fun i h1 hi => ?_)⟩
      cases hb : swB hs now i with
      | false => rfl
      | true => exact absurd ⟨i, h1, hi, hb⟩ hex
theorem code_ev (c : List S33) (hO : OpsOK c) (hl : c.length ≤ 60) : ∃ res, Run (headsK c c.length) c (ownL c.length) res ∧ Ev (fun k => swap_Code.f k c) res := by
  obtain ⟨res, hr⟩ := run_ends (headsK c c.length) _ c (ownL c.length) (Nat.le_refl _)
  refine ⟨res, hr, ?_⟩
  refine ev_neg (by omega) (Ev.bind (some_ev (heads_f c hO (by omega))) (ev_pos (headsK_length c _) ?_))
  exact run_code hr hO 1 (Nat.le_refl _) (fun j h1 h2 => by omega)
end Go.Proofs.Yticdodbnjlnjlaa.Th
