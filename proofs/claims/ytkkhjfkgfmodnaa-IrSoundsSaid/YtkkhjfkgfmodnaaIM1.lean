import Derived.Test.YtkkhjfkgfmodnaaEV
import Derived.Test.YtkkhjfkgfmodnaaPx3
import Derived.Test.YtkkhjfkgfmodnaaPx1
namespace Go.Proofs.Ytkkhjfkgfmodnaa.Pure
open Go Go.RowKit Go.Proofs.Ytkkhjfkgfmodnaa.P Go.Proofs.Ytkkhjfkgfmodnaa.Opn Go.Proofs.YtkkhjfkgfmodnaaW.PrintWords Go.Proofs.YtkkhjfkgfmodnaaW.PrintLast Go.Proofs.YtkkhjfkgfmodnaaW.PrintMore
/-- It comes to some r of which R holds. -/
def Gv {α : Type} (R : α → Prop) (g : Nat → Option α) : Prop := ∃ r, Ev g r ∧ R r
section
variable {α β : Type} {R : α → Prop}
theorem Gv.some_ {r : α} (h : R r) : Gv R (fun _ => some r) := ⟨r, Ev.now r, h⟩
theorem Gv.step {g f : Nat → Option α} (h : ∀ k, g (k + 1) = f k) (hf : Gv R f) : Gv R g := by
  obtain ⟨r, h1, h2⟩ := hf
  exact ⟨r, Ev.step h h1, h2⟩
theorem Gv.congr {g f : Nat → Option α} (h : ∀ k, g k = f k) (hf : Gv R f) : Gv R g := by
  obtain ⟨r, h1, h2⟩ := hf
  exact ⟨r, Ev.congr h h1, h2⟩
theorem Gv.ite {c : Prop} [Decidable c] {a b : Nat → Option α} (ha : c → Gv R a) (hb : ¬ c → Gv R b) : Gv R (fun k => if c then a k else b k) := by
  by_cases h : c
  · exact Gv.congr (fun k => if_pos h) (ha h)
  · exact Gv.congr (fun k => if_neg h) (hb h)
theorem Gv.pos {c : Prop} [Decidable c] {a b : Nat → Option α} (h : c) (ha : Gv R a) : Gv R (fun k => if c then a k else b k) := Gv.congr (fun _ => if_pos h) ha
theorem Gv.neg {c : Prop} [Decidable c] {a b : Nat → Option α} (h : ¬ c) (ha : Gv R b) : Gv R (fun k => if c then a k else b k) := Gv.congr (fun _ => if_neg h) ha
theorem Gv.bind {S : β → Prop} {g : Nat → Option β} {f : Nat → β → Option α} (hg : Gv S g) (hf : ∀ b, S b → Gv R (fun k => f k b)) : Gv R (fun k => (g k).bind (f k)) := by
  obtain ⟨b, h1, h2⟩ := hg
  obtain ⟨r, h3, h4⟩ := hf b h2
  exact ⟨r, Ev.bind h1 h3, h4⟩
theorem Gv.now {y : β} {f : Nat → β → Option α} (hf : Gv R (fun k => f k y)) : Gv R (fun k => (some y).bind (f k)) := hf
end
abbrev Q4 := Int × Int × Int × Int
/-- An instruction that is sound in a program of Make, and stays so where threads and instructions are added. -/
def Good (t len : Nat) (x : S30) : Prop := (0 ≤ x.f0 ∧ x.f0 ≤ 255) ∧ ∀ t' len' : Nat, t ≤ t' → len ≤ len' → insRes (lims 2 1 1 1 1 1 t' (len' : Int)) x = 0
/-- A number that may stand where a word is. -/
def okW (t len : Int) (w x : Int) : Prop := (w = 0 ∧ x = 0) ∨ w = 1 ∨ ((w = 2 ∨ w = 3) ∧ 0 ≤ x ∧ x < 4) ∨ (w = 4 ∧ 0 ≤ x ∧ x < 2) ∨ (w = 5 ∧ 0 ≤ x ∧ x ≤ len) ∨ (w = 6 ∧ 0 < x ∧ x < t) ∨ (7 ≤ w ∧ w ≤ 11 ∧ x = 0)
theorem okW_bad {t len w x : Int} {t' len' : Nat} (h : okW t len w x) (ht : t ≤ t') (hl : len ≤ len') : bad1 true w x = false ∧ bad2 (P.look (lims 2 1 1 1 1 1 t' (len' : Int)) w) w x = false := by
  rcases h with ⟨rfl, rfl⟩ | rfl | ⟨rfl | rfl, h1, h2⟩ | ⟨rfl, h1, h2⟩ | ⟨rfl, h1, h2⟩ | ⟨rfl, h1, h2⟩ | ⟨h1, h2, rfl⟩
  · exact ⟨rfl, rfl⟩
  · exact ⟨rfl, rfl⟩
  · simp [bad1, bad2, P.look, lims]; omega
  · simp [bad1, bad2, P.look, lims]; omega
  · simp [bad1, bad2, P.look, lims]; omega
  · simp [bad1, bad2, P.look, lims]; omega
  · simp [bad1, bad2, P.look, lims]; omega
  · rcases (by omega : w = 7 ∨ w = 8 ∨ w = 9 ∨ w = 10 ∨ w = 11) with rfl | rfl | rfl | rfl | rfl <;> exact ⟨rfl, rfl⟩
theorem good_of {t len : Nat} {x : S30} (h01 : (decide (0 ≤ x.f0) && decide (x.f0 < 28)) = true) (ha : okW t len ((shpAt x.f0).w 0) x.f1) (hb : okW t len ((shpAt x.f0).w 1) x.f2) (hc : okW t len ((shpAt x.f0).w 2) x.f3) : Good t len x := by
  obtain ⟨h0, h1⟩ : 0 ≤ x.f0 ∧ x.f0 < 28 := by simpa using h01
  refine ⟨⟨h0, by omega⟩, fun t' len' ht hl => ?_⟩
  obtain ⟨a1, a2⟩ := okW_bad (t' := t') (len' := len') ha (by omega) (by omega)
  obtain ⟨b1, b2⟩ := okW_bad (t' := t') (len' := len') hb (by omega) (by omega)
  obtain ⟨c1, c2⟩ := okW_bad (t' := t') (len' := len') hc (by omega) (by omega)
  unfold insRes insBad
  rw [decide_eq_true h1]
  have e0 : xyz x.f1 x.f2 x.f3 0 = x.f1 := rfl
  have e1 : xyz x.f1 x.f2 x.f3 1 = x.f2 := rfl
  have e2 : xyz x.f1 x.f2 x.f3 2 = x.f3 := rfl
  simp only [any1, any2, e0, e1, e2, a1, a2, b1, b2, c1, c2, Bool.or_self]
  rfl
theorem Good.more {t len t' len' : Nat} {x : S30} (h : Good t len x) (ht : t ≤ t') (hl : len ≤ len') : Good t' len' x := ⟨h.1, fun a b h1 h2 => h.2 a b (by omega) (by omega)⟩
def opsL : List Int := [7, 8, 9, 1, 3, 7, 8, 9, 13, 14, 15, 16, 17, 18, 19, 20, 21, 22, 23, 24, 25, 26, 27, 11, 10, 0, 2, 4, 5, 6, 7, 8, 13, 14, 9, 8]
theorem opsL_ok : ∀ x ∈ opsL, 0 ≤ x ∧ x ≤ 27 ∧ x ≠ 12 := by decide
theorem rd_opsL (i : Int) (h0 : 0 ≤ i) (h1 : i < 36) : 0 ≤ rd opsL i ∧ rd opsL i ≤ 27 ∧ rd opsL i ≠ 12 := by
  refine opsL_ok _ ?_
  show opsL.getD i.toNat 0 ∈ opsL
  have : i.toNat < opsL.length := by show i.toNat < 36; omega
  rw [List.getD_eq_getElem?_getD, List.getElem?_eq_getElem this]
  exact List.getElem_mem this
theorem okW_zero {t len w : Int} (h : w = 0 ∨ 7 ≤ w ∧ w ≤ 11) : okW t len w 0 := by unfold okW; omega
theorem okW_high {t len w : Int} (h : (decide (7 ≤ w) && decide (w ≤ 11)) = true) : okW t len w 0 := okW_zero (Or.inr (by simpa using h))
theorem okW_reg {t len w x : Int} (h : w = 2 ∨ w = 3) (hx : 0 ≤ x ∧ x < 4) : okW t len w x := by unfold okW; omega
theorem okW_num {t len x : Int} : okW t len 1 x := by unfold okW; omega
theorem okW_var {t len x : Int} (hx : 0 ≤ x ∧ x < 2) : okW t len 4 x := by unfold okW; omega
theorem okW_place {t len x : Int} (hx : 0 ≤ x ∧ x ≤ len) : okW t len 5 x := by unfold okW; omega
set_option maxRecDepth 100000 in
theorem ins_good (a b : Int) (at_ n t : Nat) (ha0 : 0 ≤ a) (ha : a ≤ 255) (hb0 : 0 ≤ b) (_hb : b ≤ 255) (hn : at_ < n) (hn2 : n ≤ 100) : Gv (fun r : Q4 => Good t n ⟨r.1, r.2.1, r.2.2.1, r.2.2.2⟩) (fun k => interlocklaw02_Ins.f k a b (at_ : Int) (n : Int)) := by
  have e : ((opsL.length : Nat) : Int) = 36 := rfl
  have hq : 0 ≤ Int.tmod (wrap64 a) 36 ∧ Int.tmod (wrap64 a) 36 < 36 := by
    rw [w64 (by omega) (by omega), Int.tmod_eq_emod_of_nonneg ha0]; omega
  unfold interlocklaw02_Ins.f
  refine Gv.now (y := opsL) ?_
  refine Gv.neg (by rw [e]; decide) ?_
  rw [e]
  generalize Int.tmod (wrap64 a) 36 = q at hq ⊢
  refine Gv.pos hq.1 (Gv.pos hq.2 ?_)
  have hr := rd_opsL q hq.1 hq.2
  generalize rd opsL q = op at hr ⊢
  have e1 : wrap64 (Int.tmod b 4) = b % 4 := by rw [Int.tmod_eq_emod_of_nonneg hb0, w64 (by omega) (by omega)]
  have e2 : wrap64 ((at_ : Int) + 1) = (at_ : Int) + 1 := w64 (by omega) (by omega)
  have h4 : 0 ≤ b % 4 ∧ b % 4 < 4 := by omega
  have h8 : 0 ≤ (Int.tdiv b 4) % 8 ∧ (Int.tdiv b 4) % 8 < 8 := by omega
  have h44 : 0 ≤ (Int.tdiv b 4) % 4 ∧ (Int.tdiv b 4) % 4 < 4 := by omega
  have h162 : 0 ≤ (Int.tdiv b 16) % 2 ∧ (Int.tdiv b 16) % 2 < 2 := by omega
  have h164 : 0 ≤ (Int.tdiv b 16) % 4 ∧ (Int.tdiv b 16) % 4 < 4 := by omega
  have e3 : Aside0 (wrap64 ((at_ : Int) + 1 + (Int.tdiv b 4) % 4) = (at_ : Int) + 1 + (Int.tdiv b 4) % 4) := ⟨w64 (by omega) (by omega)⟩
  have e4 : Aside0 (wrap64 ((at_ : Int) - (Int.tdiv b 4) % 4) = (at_ : Int) - (Int.tdiv b 4) % 4) := ⟨w64 (by omega) (by omega)⟩
  have hmn : ∀ x : Int, 0 ≤ x → 0 ≤ mn x (n : Int) ∧ mn x (n : Int) ≤ (n : Int) := fun x hx => by unfold mn; split <;> omega
  have hmx : ∀ x : Int, x ≤ (n : Int) → 0 ≤ mx x 0 ∧ mx x 0 ≤ (n : Int) := fun x hx => by unfold mx; split <;> omega
  simp only [interlocklaw02_Ins.j0, interlocklaw02_Ins.j1]
  generalize (Int.tdiv b 4) % 8 = c8 at h8 ⊢
  generalize (Int.tdiv b 4) % 4 = c4 at h44 e3 e4 ⊢
  generalize (Int.tdiv b 16) % 2 = d2 at h162 ⊢
  rw [e1]
  generalize b % 4 = r at h4 ⊢
  rcases (by omega : op = 0 ∨ op = 1 ∨ op = 2 ∨ op = 3 ∨ op = 4 ∨ op = 5 ∨ op = 6 ∨ op = 7 ∨ op = 8 ∨ op = 9 ∨ op = 10 ∨ op = 11 ∨ op = 13 ∨ op = 14 ∨ op = 15 ∨ op = 16 ∨ op = 17 ∨ op = 18 ∨ op = 19 ∨ op = 20 ∨ op = 21 ∨ op = 22 ∨ op = 23 ∨ op = 24 ∨ op = 25 ∨ op = 26 ∨ op = 27) with rfl | rfl | rfl | rfl | rfl | rfl | rfl | rfl | rfl | rfl | rfl | rfl | rfl | rfl | rfl | rfl | rfl | rfl | rfl | rfl | rfl | rfl | rfl | rfl | rfl | rfl | rfl
  case inr.inr.inr.inr.inr.inr.inr.inr.inr.inr.inr.inl =>
    by_cases h200 : b ≥ 200
    · refine ⟨(11, r, mx (wrap64 ((at_ : Int) - c4)) 0, 0), Ev.step (f := fun k => _) (fun k => by rw [if_neg (by decide), if_neg (by decide), if_neg (by decide), if_neg (by decide), if_neg (by decide)]; exact (show interlocklaw02_Ins.j0 (k + 1) b (at_ : Int) (n : Int) 11 r c4 d2 11 false = if b ≥ 200 then some (11, r, mx (wrap64 ((at_ : Int) - c4)) 0, 0) else some (11, r, mn (wrap64 ((wrap64 ((at_ : Int) + 1)) + c4)) (n : Int), 0) from rfl)) (Ev.congr (fun k => if_pos h200) (Ev.now _)), ?_⟩
      have := hmx (wrap64 ((at_ : Int) - c4)) (by rw [e4.out]; omega)
      exact good_of rfl (okW_reg (Or.inr rfl) h4) (okW_place this) (okW_zero (Or.inl rfl))
    · refine ⟨(11, r, mn (wrap64 ((wrap64 ((at_ : Int) + 1)) + c4)) (n : Int), 0), Ev.step (f := fun k => _) (fun k => by rw [if_neg (by decide), if_neg (by decide), if_neg (by decide), if_neg (by decide), if_neg (by decide)]; exact (show interlocklaw02_Ins.j0 (k + 1) b (at_ : Int) (n : Int) 11 r c4 d2 11 false = if b ≥ 200 then some (11, r, mx (wrap64 ((at_ : Int) - c4)) 0, 0) else some (11, r, mn (wrap64 ((wrap64 ((at_ : Int) + 1)) + c4)) (n : Int), 0) from rfl)) (Ev.congr (fun k => if_neg h200) (Ev.now _)), ?_⟩
      have := hmn (wrap64 ((wrap64 ((at_ : Int) + 1)) + c4)) (by rw [e2, e3.out]; omega)
      exact good_of rfl (okW_reg (Or.inr rfl) h4) (okW_place this) (okW_zero (Or.inl rfl))
  case inr.inr.inr.inr.inr.inr.inr.inr.inr.inr.inl =>
    have := hmn (wrap64 ((wrap64 ((at_ : Int) + 1)) + c4)) (by rw [e2, e3.out]; omega)
    exact ⟨(10, mn (wrap64 ((wrap64 ((at_ : Int) + 1)) + c4)) (n : Int), 0, 0), Ev.step (f := fun _ => _) (fun _ => rfl) (Ev.now _), good_of rfl (okW_place this) (okW_zero (Or.inl rfl)) (okW_zero (Or.inl rfl))⟩
  all_goals exact ⟨(_, _, _, _), ⟨2, fun k hk => by obtain ⟨k, rfl⟩ := Nat.exists_eq_add_of_le hk; rw [Nat.add_comm 2 k]; rfl⟩, good_of rfl (by first | exact okW_zero (Or.inl rfl) | exact okW_num | exact okW_reg (Or.inl rfl) h4 | exact okW_reg (Or.inr rfl) h4 | exact okW_var h162 | exact okW_high rfl) (by first | exact okW_zero (Or.inl rfl) | exact okW_num | exact okW_reg (Or.inl rfl) h4 | exact okW_reg (Or.inr rfl) h4 | exact okW_reg (Or.inr rfl) h44 | exact okW_var h162 | exact okW_high rfl) (by first | exact okW_zero (Or.inl rfl) | exact okW_reg (Or.inl rfl) h44 | exact okW_reg (Or.inr rfl) h44 | exact okW_reg (Or.inr rfl) h164)⟩
end Go.Proofs.Ytkkhjfkgfmodnaa.Pure
