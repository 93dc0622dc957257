import Derived.Test.YtbnkeddnibjncaaDoorFP
namespace Go.Proofs.YtbnkeddnibjncaaDoor.Th
set_option linter.unusedVariables false
open Go Go.RowKit Go.Proofs.YtbnkeddnibjncaaDoor.P Go.Proofs.YtbnkeddnibjncaaDoor.Opn Go.Proofs.YtbnkeddnibjncaaDoorW.PrintWords Go.Proofs.YtbnkeddnibjncaaDoorW.PrintLast Go.Proofs.YtbnkeddnibjncaaDoorW.PrintMore
/-! Graphs: what is come to, what can not be come to without. No program in sight. -/
def Edge (ss : List (List Int)) (i j : Nat) : Prop := i < ss.length ∧ j < ss.length ∧ (j : Int) ∈ ss.getD i []
/-- Come to from 0 through none of S. -/
inductive RA (ss : List (List Int)) (S : Nat → Prop) : Nat → Prop
  | zero : 0 < ss.length → ¬ S 0 → RA ss S 0
  | step {i j : Nat} : RA ss S i → Edge ss i j → ¬ S j → RA ss S j
/-- Come to from a; behind a through none of S. -/
inductive Seg (ss : List (List Int)) (S : Nat → Prop) (a : Nat) : Nat → Prop
  | refl : Seg ss S a a
  | step {i j : Nat} : Seg ss S a i → Edge ss i j → ¬ S j → Seg ss S a j
def Rch (ss : List (List Int)) (x : Nat) : Prop := RA ss (fun _ => False) x
def Dom (ss : List (List Int)) (d x : Nat) : Prop := Rch ss x ∧ ¬ RA ss (· = d) x
section
variable {ss : List (List Int)}
theorem RA.lt {S : Nat → Prop} {x : Nat} (h : RA ss S x) : x < ss.length := by
  cases h with
  | zero h _ => exact h
  | step _ e _ => exact e.2.1
theorem RA.out {S : Nat → Prop} {x : Nat} (h : RA ss S x) : ¬ S x := by
  cases h with
  | zero _ h => exact h
  | step _ _ h => exact h
theorem RA.weak {S T : Nat → Prop} (hST : ∀ x, T x → S x) {x : Nat} (h : RA ss S x) : RA ss T x := by
  induction h with
  | zero h0 h1 => exact .zero h0 (fun c => h1 (hST _ c))
  | step _ e h1 ih => exact .step ih e (fun c => h1 (hST _ c))
theorem RA.rch {S : Nat → Prop} {x : Nat} (h : RA ss S x) : Rch ss x := h.weak (fun _ c => c.elim)
theorem Rch.zero (h : 0 < ss.length) : Rch ss 0 := RA.zero h (fun c => c)
theorem Rch.step {i j : Nat} (h : Rch ss i) (e : Edge ss i j) : Rch ss j := RA.step h e (fun c => c)
theorem RA.seg {S T : Nat → Prop} (hST : ∀ x, S x → T x) {a x : Nat} (h : RA ss S a) (k : Seg ss T a x) : RA ss S x := by
  induction k with
  | refl => exact h
  | step _ e h1 ih => exact .step ih e (fun c => h1 (hST _ c))
theorem Dom.lt {d x : Nat} (h : Dom ss d x) : d < ss.length := by
  refine Classical.byContradiction (fun hd => h.2 ?_)
  have : ∀ y, Rch ss y → RA ss (· = d) y := by
    intro y hy
    induction hy with
    | zero h0 _ => exact .zero h0 (by omega)
    | step _ e _ ih => exact .step ih e (by have := e.2.1; omega)
  exact this x h.1
theorem Dom.self {x : Nat} (h : Rch ss x) : Dom ss x x := ⟨h, fun c => c.out rfl⟩
theorem Dom.zero {x : Nat} (h : Rch ss x) : Dom ss 0 x := ⟨h, fun c => by
  have : ∀ y, RA ss (· = 0) y → False := by
    intro y hy
    induction hy with
    | zero _ h1 => exact h1 rfl
    | step _ _ _ ih => exact ih
  exact this x c⟩
theorem Dom.of_zero {d : Nat} (h : Dom ss d 0) : d = 0 := by
  refine Classical.byContradiction (fun hd => h.2 (.zero h.1.lt (fun c => hd c.symm)))
/-- What is not come to without d is not, from what leads there. -/
theorem Dom.pred {d p x : Nat} (h : Dom ss d x) (hne : d ≠ x) (hp : Rch ss p) (e : Edge ss p x) : Dom ss d p := ⟨hp, fun c => h.2 (.step c e (fun c2 => hne c2.symm))⟩
theorem Dom.rch {d x : Nat} (h : Dom ss d x) : Rch ss d := by
  refine Classical.byContradiction (fun hd => h.2 ?_)
  have : ∀ y, Rch ss y → RA ss (· = d) y := by
    intro y hy
    induction hy with
    | zero h0 _ => exact .zero h0 (fun c => hd (by have c : 0 = d := c; rw [← c]; exact Rch.zero h0))
    | step h1 e _ ih => exact .step ih e (fun c => hd (by have c : _ = d := c; rw [← c]; exact Rch.step h1 e))
  exact this x h.1
/-- The last of two on the way. -/
theorem last_two (a b : Nat) {x : Nat} (h : Rch ss x) : RA ss (fun y => y = a ∨ y = b) x ∨ Seg ss (fun y => y = a ∨ y = b) a x ∨ Seg ss (fun y => y = a ∨ y = b) b x := by
  induction h with
  | zero h0 _ =>
    by_cases ha : 0 = a
    · subst ha; exact .inr (.inl .refl)
    by_cases hb : 0 = b
    · subst hb; exact .inr (.inr .refl)
    exact .inl (.zero h0 (fun c => c.elim ha hb))
  | @step i j _ e _ ih =>
    by_cases ha : j = a
    · subst ha; exact .inr (.inl .refl)
    by_cases hb : j = b
    · subst hb; exact .inr (.inr .refl)
    have hn : ¬ (j = a ∨ j = b) := fun c => c.elim ha hb
    rcases ih with h1 | h1 | h1
    · exact .inl (.step h1 e hn)
    · exact .inr (.inl (.step h1 e hn))
    · exact .inr (.inr (.step h1 e hn))
/-- The first of two on the way. -/
theorem first_two {a b : Nat} (hab : a ≠ b) {x : Nat} (h : Rch ss x) : RA ss (fun y => y = a ∨ y = b) x ∨ RA ss (· = b) a ∨ RA ss (· = a) b := by
  induction h with
  | zero h0 _ =>
    by_cases ha : 0 = a
    · subst ha; exact .inr (.inl (.zero h0 hab))
    by_cases hb : 0 = b
    · subst hb; exact .inr (.inr (.zero h0 (fun c => hab c.symm)))
    exact .inl (.zero h0 (fun c => c.elim ha hb))
  | @step i j _ e _ ih =>
    rcases ih with h1 | h1
    · by_cases ha : j = a
      · subst ha
        exact .inr (.inl (.step (h1.weak (fun _ c => .inr c)) e hab))
      by_cases hb : j = b
      · subst hb
        exact .inr (.inr (.step (h1.weak (fun _ c => .inl c)) e (fun c => hab c.symm)))
      exact .inl (.step h1 e (fun c => c.elim ha hb))
    · exact .inr h1
theorem Dom.anti {a b : Nat} (h : Dom ss a b) (k : Dom ss b a) : a = b := by
  refine Classical.byContradiction (fun hab => ?_)
  rcases first_two hab h.1 with c | c | c
  · exact c.out (.inr rfl)
  · exact k.2 c
  · exact h.2 c
/-- Of two that both can not be done without, one can not be done without ahead of the other. -/
theorem Dom.chain {a b x : Nat} (h : Dom ss a x) (k : Dom ss b x) : Dom ss a b ∨ Dom ss b a := by
  by_cases hab : a = b
  · subst hab; exact .inl (Dom.self h.rch)
  refine Classical.byContradiction (fun hn => ?_)
  have h1 : RA ss (· = a) b := Classical.byContradiction (fun c => hn (.inl ⟨k.rch, c⟩))
  have h2 : RA ss (· = b) a := Classical.byContradiction (fun c => hn (.inr ⟨h.rch, c⟩))
  rcases last_two a b h.1 with c | c | c
  · exact h.2 (c.weak (fun _ e => .inl e))
  · exact k.2 (h2.seg (fun _ e => .inr e) c)
  · exact h.2 (h1.seg (fun _ e => .inl e) c)
/-- A loop's nodes: the head; what leads back to it; what leads to one of them. -/
def Back (ss : List (List Int)) (h t : Nat) : Prop := Edge ss t h ∧ Dom ss h t
def Head (ss : List (List Int)) (h : Nat) : Prop := ∃ t, Back ss h t
inductive InB (ss : List (List Int)) (h : Nat) : Nat → Prop
  | head : InB ss h h
  | src {t : Nat} : Back ss h t → InB ss h t
  | pred {x y : Nat} : InB ss h y → y ≠ h → Edge ss x y → Rch ss x → InB ss h x
theorem InB.dom {h x : Nat} (hh : Rch ss h) (k : InB ss h x) : Dom ss h x := by
  induction k with
  | head => exact Dom.self hh
  | src b => exact b.2
  | pred _ hne e hr ih => exact ih.pred (fun c => hne c.symm) hr e
theorem Head.rch {h : Nat} (k : Head ss h) : Rch ss h := by
  obtain ⟨t, b⟩ := k
  exact b.2.rch
/-- On from a node of a loop, through none but it. -/
theorem InB.seg {h a x : Nat} {S : Nat → Prop} (hS : S h) (ha : Rch ss a) (k : Seg ss S a x) (hx : InB ss h x) : InB ss h a := by
  induction k with
  | refl => exact hx
  | @step i j hs e hn ih =>
    have hi : Rch ss i := by
      have := RA.seg (S := fun _ => False) (T := S) (fun _ c => c.elim) ha hs
      exact this
    exact ih (.pred hx (fun c => hn (by rw [c]; exact hS)) e hi)
/-- Two loops: what is of both, then the one is in the other. -/
theorem InB.sub {a b x : Nat} (ha : Head ss a) (hb : Head ss b) (hab : a ≠ b) (hd : Dom ss a b) (hxa : InB ss a x) (hxb : InB ss b x) : ∀ y, InB ss b y → InB ss a y := by
  have hda := hxa.dom ha.rch
  have hdb := hxb.dom hb.rch
  have hba : ¬ Dom ss b a := fun c => hab (hd.anti c)
  have h2 : RA ss (· = b) a := Classical.byContradiction (fun c => hba ⟨ha.rch, c⟩)
  have hbin : InB ss a b := by
    rcases last_two a b hda.1 with c | c | c
    · exact absurd (c.weak (fun _ e => .inl e)) hda.2
    · exact absurd (h2.seg (fun _ e => .inr e) c) hdb.2
    · exact InB.seg (S := fun y => y = a ∨ y = b) (.inl rfl) hb.rch c hxa
  intro y hy
  induction hy with
  | head => exact hbin
  | src k =>
    exact .pred hbin (fun c => hab c.symm) k.1 k.2.1
  | @pred u v hv hne e hr ih =>
    refine .pred ih (fun c => ?_) e hr
    subst c
    exact hba (hv.dom hb.rch)
end
end Go.Proofs.YtbnkeddnibjncaaDoor.Th
