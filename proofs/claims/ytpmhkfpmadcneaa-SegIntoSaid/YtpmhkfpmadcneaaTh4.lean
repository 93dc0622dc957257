import Derived.Test.YtpmhkfpmadcneaaTh3
import Derived.Test.YtpmhkfpmadcneaaPx4
namespace Go.Proofs.Ytpmhkfpmadcneaa.Th
open Go Go.RowKit Go.Proofs.Ytpmhkfpmadcneaa.P Go.Proofs.YtpmhkfpmadcneaaW.PrintWords Go.Proofs.YtpmhkfpmadcneaaW.PrintLast Go.Proofs.YtpmhkfpmadcneaaW.PrintMore

/-- It comes to some r of which R holds. -/
def Gv {α : Type} (R : α → Prop) (g : Nat → Option α) : Prop := ∃ r, Ev g r ∧ R r
section
variable {α β : Type} {R : α → Prop}
theorem Gv.some_ {r : α} (h : R r) : Gv R (fun _ => some r) := ⟨r, Ev.now r, h⟩
theorem Gv.step {g f : Nat → Option α} (h : ∀ k, g (k + 1) = f k) (hf : Gv R f) : Gv R g := by
  obtain ⟨r, h1, h2⟩ := hf
  exact ⟨r, Ev.step h h1, h2⟩
theorem Gv.congr {g f : Nat → Option α} (h : ∀ k, g k = f k) (hf : Gv R f) : Gv R g := by
  obtain ⟨r, h1, h2⟩ := hf
  exact ⟨r, Ev.congr h h1, h2⟩
theorem Gv.ite {c : Prop} [Decidable c] {a b : Nat → Option α} (ha : c → Gv R a) (hb : ¬ c → Gv R b) : Gv R (fun k => if c then a k else b k) := by
  by_cases h : c
  · exact Gv.congr (fun k => if_pos h) (ha h)
  · exact Gv.congr (fun k => if_neg h) (hb h)
theorem Gv.pos {c : Prop} [Decidable c] {a b : Nat → Option α} (h : c) (ha : Gv R a) : Gv R (fun k => if c then a k else b k) := Gv.congr (fun _ => if_pos h) ha
theorem Gv.neg {c : Prop} [Decidable c] {a b : Nat → Option α} (h : ¬ c) (ha : Gv R b) : Gv R (fun k => if c then a k else b k) := Gv.congr (fun _ => if_neg h) ha
theorem Gv.bind {S : β → Prop} {g : Nat → Option β} {f : Nat → β → Option α} (hg : Gv S g) (hf : ∀ b, S b → Gv R (fun k => f k b)) : Gv R (fun k => (g k).bind (f k)) := by
  obtain ⟨b, h1, h2⟩ := hg
  obtain ⟨r, h3, h4⟩ := hf b h2
  exact ⟨r, Ev.bind h1 h3, h4⟩
theorem Gv.bind_ev {g : Nat → Option β} {b : β} {f : Nat → β → Option α} (hg : Ev g b) (hf : Gv R (fun k => f k b)) : Gv R (fun k => (g k).bind (f k)) := by
  obtain ⟨r, h3, h4⟩ := hf
  exact ⟨r, Ev.bind hg h3, h4⟩
theorem Gv.now {y : β} {f : Nat → β → Option α} (hf : Gv R (fun k => f k y)) : Gv R (fun k => (some y).bind (f k)) := hf
end
abbrev Q4 := Int × Int × Int × Int
theorem j1_ok (x1 x10 x11 x12 x34 : Int) (b : Bool) : Gv (fun r : Q4 => r.1 = x10) (fun k => interlocklaw02_Ins.j1 k x1 x10 x11 x12 x34 b) := by
  refine Gv.step (f := fun _ => _) (fun k => by simp only [interlocklaw02_Ins.j1]; rfl) ?_
  repeat' (first | exact Gv.some_ rfl | (refine Gv.ite (fun _ => ?_) (fun _ => ?_)))
theorem j0_ok (x1 x2 x3 x10 x11 x12 x13 x34 : Int) (b : Bool) : Gv (fun r : Q4 => r.1 = x10) (fun k => interlocklaw02_Ins.j0 k x1 x2 x3 x10 x11 x12 x13 x34 b) := by
  refine Gv.step (fun k => by simp only [interlocklaw02_Ins.j0]; rfl) ?_
  repeat' (first | exact Gv.some_ rfl | exact j1_ok _ _ _ _ _ _ | (refine Gv.ite (fun _ => ?_) (fun _ => ?_)))
def opsL : List Int := [7, 8, 9, 1, 3, 7, 8, 9, 13, 14, 15, 16, 17, 18, 19, 20, 21, 22, 23, 24, 25, 26, 27, 11, 10, 0, 2, 4, 5, 6, 7, 8, 13, 14, 9, 8]
theorem opsL_ok : ∀ x ∈ opsL, 0 ≤ x ∧ x ≤ 27 := by decide
theorem rd_opsL (i : Int) (h0 : 0 ≤ i) (h1 : i < 36) : 0 ≤ rd opsL i ∧ rd opsL i ≤ 27 := by
  refine opsL_ok _ ?_
  show opsL.getD i.toNat 0 ∈ opsL
  have : i.toNat < opsL.length := by show i.toNat < 36; omega
  rw [List.getD_eq_getElem?_getD, List.getElem?_eq_getElem this]
  exact List.getElem_mem this
theorem ins_ok (a b x n : Int) (ha0 : 0 ≤ a) (ha : a ≤ 255) : Gv (fun r : Q4 => 0 ≤ r.1 ∧ r.1 ≤ 27) (fun k => interlocklaw02_Ins.f k a b x n) := by
  unfold interlocklaw02_Ins.f
  refine Gv.now (y := opsL) ?_
  have e : ((opsL.length : Nat) : Int) = 36 := rfl
  have hq : 0 ≤ Int.tmod (wrap64 a) 36 ∧ Int.tmod (wrap64 a) 36 < 36 := by
    rw [w64 (by omega) (by omega), Int.tmod_eq_emod_of_nonneg ha0]; omega
  refine Gv.neg (by rw [e]; decide) ?_
  rw [e]
  generalize Int.tmod (wrap64 a) 36 = q at hq ⊢
  refine Gv.pos hq.1 (Gv.pos hq.2 ?_)
  have hr := rd_opsL q hq.1 hq.2
  generalize rd opsL q = op at hr ⊢
  have weak : ∀ {g : Nat → Option Q4}, Gv (fun r : Q4 => r.1 = op) g → Gv (fun r : Q4 => 0 ≤ r.1 ∧ r.1 ≤ 27) g := fun ⟨r, h1, h2⟩ => ⟨r, h1, by
    have h3 : r.1 = op := h2
    show 0 ≤ r.1 ∧ r.1 ≤ 27
    rw [h3]; exact hr⟩
  repeat' (first | exact Gv.some_ hr | exact weak (j0_ok _ _ _ _ _ _ _ _ _) | (refine Gv.ite (fun _ => ?_) (fun _ => ?_)))
end Go.Proofs.Ytpmhkfpmadcneaa.Th
