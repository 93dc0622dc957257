import Derived.Test.YticdodbnjlnjlaaTA
import Derived.Test.YticdodbnjlnjlaaVs
namespace Go.Proofs.Yticdodbnjlnjlaa.Th
set_option linter.unusedVariables false
open Go Go.RowKit Go.Proofs.Yticdodbnjlnjlaa.P Go.Proofs.YticdodbnjlnjlaaW.PrintWords Go.Proofs.YticdodbnjlnjlaaW.PrintLast Go.Proofs.YticdodbnjlnjlaaW.PrintMore
/-! What Make writes for one thread. -/
/-- It comes to some r of which R holds. -/
def Gv {α : Type} (R : α → Prop) (g : Nat → Option α) : Prop := ∃ r, Ev g r ∧ R r
section
variable {α β : Type} {R : α → Prop}
theorem Gv.some_ {r : α} (h : R r) : Gv R (fun _ => some r) := ⟨r, Ev.now r, h⟩
theorem Gv.step {g f : Nat → Option α} (h : ∀ k, g (k + 1) = f k) (hf : Gv R f) : Gv R g := by
  obtain ⟨r, h1, h2⟩ := hf
  exact ⟨r, Ev.step h h1, h2⟩
theorem Gv.congr {g f : Nat → Option α} (h : ∀ k, g k = f k) (hf : Gv R f) : Gv R g := by
  obtain ⟨r, h1, h2⟩ := hf
  exact ⟨r, Ev.congr h h1, h2⟩
theorem Gv.ite {c : Prop} [Decidable c] {a b : Nat → Option α} (ha : c → Gv R a) (hb : ¬ c → Gv R b) : Gv R (fun k => if c then a k else b k) := by
  by_cases h : c
  · exact Gv.congr (fun k => if_pos h) (ha h)
  · exact Gv.congr (fun k => if_neg h) (hb h)
theorem Gv.pos {c : Prop} [Decidable c] {a b : Nat → Option α} (h : c) (ha : Gv R a) : Gv R (fun k => if c then a k else b k) := Gv.congr (fun _ => if_pos h) ha
theorem Gv.neg {c : Prop} [Decidable c] {a b : Nat → Option α} (h : ¬ c) (ha : Gv R b) : Gv R (fun k => if c then a k else b k) := Gv.congr (fun _ => if_neg h) ha
theorem Gv.bind {S : β → Prop} {g : Nat → Option β} {f : Nat → β → Option α} (hg : Gv S g) (hf : ∀ b, S b → Gv R (fun k => f k b)) : Gv R (fun k => (g k).bind (f k)) := by
  obtain ⟨b, h1, h2⟩ := hg
  obtain ⟨r, h3, h4⟩ := hf b h2
  exact ⟨r, Ev.bind h1 h3, h4⟩
theorem Gv.now {y : β} {f : Nat → β → Option α} (hf : Gv R (fun k => f k y)) : Gv R (fun k => (some y).bind (f k)) := hf
end
abbrev Q4 := Int × Int × Int × Int
/-- A number that may stand where a word is. -/
def okW (len : Int) (w x : Int) : Prop := (w = 0 ∧ x = 0) ∨ w = 1 ∨ ((w = 2 ∨ w = 3) ∧ 0 ≤ x ∧ x < 4) ∨ (w = 4 ∧ 0 ≤ x ∧ x < 2) ∨ (w = 5 ∧ 0 ≤ x ∧ x ≤ len) ∨ (7 ≤ w ∧ w ≤ 11 ∧ x = 0)
/-- An instruction that Make writes for one thread. -/
structure Good (len : Nat) (x : S33) : Prop where
  o : 0 ≤ x.f0 ∧ x.f0 < 28 ∧ x.f0 ≠ 12
  a : okW len ((shpAt x.f0).w 0) x.f1
  b : okW len ((shpAt x.f0).w 1) x.f2
  c : okW len ((shpAt x.f0).w 2) x.f3
theorem good_of {len : Nat} {x : S33} (h01 : (decide (0 ≤ x.f0) && decide (x.f0 < 28) && decide (x.f0 ≠ 12)) = true) (ha : okW len ((shpAt x.f0).w 0) x.f1) (hb : okW len ((shpAt x.f0).w 1) x.f2) (hc : okW len ((shpAt x.f0).w 2) x.f3) : Good len x := by
  simp only [Bool.and_eq_true, decide_eq_true_eq] at h01
  exact ⟨⟨h01.1.1, h01.1.2, h01.2⟩, ha, hb, hc⟩
def opsL : List Int := [7, 8, 9, 1, 3, 7, 8, 9, 13, 14, 15, 16, 17, 18, 19, 20, 21, 22, 23, 24, 25, 26, 27, 11, 10, 0, 2, 4, 5, 6, 7, 8, 13, 14, 9, 8]
theorem opsL_ok : ∀ x ∈ opsL, 0 ≤ x ∧ x ≤ 27 ∧ x ≠ 12 := by decide
theorem rd_opsL (i : Int) (h0 : 0 ≤ i) (h1 : i < 36) : 0 ≤ rd opsL i ∧ rd opsL i ≤ 27 ∧ rd opsL i ≠ 12 := by
  refine opsL_ok _ ?_
  show opsL.getD i.toNat 0 ∈ opsL
  have : i.toNat < opsL.length := by show i.toNat < 36; omega
  rw [List.getD_eq_getElem?_getD, List.getElem?_eq_getElem this]
  exact List.getElem_mem this
theorem okW_zero {len w : Int} (h : w = 0 ∨ 7 ≤ w ∧ w ≤ 11) : okW len w 0 := by unfold okW; omega
theorem okW_high {len w : Int} (h : (decide (7 ≤ w) && decide (w ≤ 11)) = true) : okW len w 0 := okW_zero (Or.inr (by simpa using h))
theorem okW_reg {len w x : Int} (h : w = 2 ∨ w = 3) (hx : 0 ≤ x ∧ x < 4) : okW len w x := by unfold okW; omega
theorem okW_num {len x : Int} : okW len 1 x := by unfold okW; omega
theorem okW_var {len x : Int} (hx : 0 ≤ x ∧ x < 2) : okW len 4 x := by unfold okW; omega
theorem okW_place {len x : Int} (hx : 0 ≤ x ∧ x ≤ len) : okW len 5 x := by unfold okW; omega
set_option maxRecDepth 100000 in
theorem ins_good (a b : Int) (at_ n : Nat) (ha0 : 0 ≤ a) (ha : a ≤ 255) (hb0 : 0 ≤ b) (_hb : b ≤ 255) (hn : at_ < n) (hn2 : n ≤ 100) : Gv (fun r : Q4 => Good n ⟨r.1, r.2.1, r.2.2.1, r.2.2.2⟩) (fun k => interlocklaw02_Ins.f k a b (at_ : Int) (n : Int)) := by
  have e : ((opsL.length : Nat) : Int) = 36 := rfl
  have hq : 0 ≤ Int.tmod (wrap64 a) 36 ∧ Int.tmod (wrap64 a) 36 < 36 := by
    rw [w64 (by omega) (by omega), Int.tmod_eq_emod_of_nonneg ha0]; omega
  unfold interlocklaw02_Ins.f
  refine Gv.now (y := opsL) ?_
  refine Gv.neg (by rw [e]; decide) ?_
  rw [e]
  generalize Int.tmod (wrap64 a) 36 = q at hq ⊢
  refine Gv.pos hq.1 (Gv.pos hq.2 ?_)
  have hr := rd_opsL q hq.1 hq.2
  generalize rd opsL q = op at hr ⊢
  have e1 : wrap64 (Int.tmod b 4) = b % 4 := by rw [Int.tmod_eq_emod_of_nonneg hb0, w64 (by omega) (by omega)]
  have e2 : wrap64 ((at_ : Int) + 1) = (at_ : Int) + 1 := w64 (by omega) (by omega)
  have h4 : 0 ≤ b % 4 ∧ b % 4 < 4 := by omega
  have h8 : 0 ≤ (Int.tdiv b 4) % 8 ∧ (Int.tdiv b 4) % 8 < 8 := by omega
  have h44 : 0 ≤ (Int.tdiv b 4) % 4 ∧ (Int.tdiv b 4) % 4 < 4 := by omega
  have h162 : 0 ≤ (Int.tdiv b 16) % 2 ∧ (Int.tdiv b 16) % 2 < 2 := by omega
  have h164 : 0 ≤ (Int.tdiv b 16) % 4 ∧ (Int.tdiv b 16) % 4 < 4 := by omega
  have e3 : Aside0 (wrap64 ((at_ : Int) + 1 + (Int.tdiv b 4) % 4) = (at_ : Int) + 1 + (Int.tdiv b 4) % 4) := ⟨w64 (by omega) (by omega)⟩
  have e4 : Aside0 (wrap64 ((at_ : Int) - (Int.tdiv b 4) % 4) = (at_ : Int) - (Int.tdiv b 4) % 4) := ⟨w64 (by omega) (by omega)⟩
  have hmn : ∀ x : Int, 0 ≤ x → 0 ≤ mn x (n : Int) ∧ mn x (n : Int) ≤ (n : Int) := fun x hx => by unfold mn; split <;> omega
  have hmx : ∀ x : Int, x ≤ (n : Int) → 0 ≤ mx x 0 ∧ mx x 0 ≤ (n : Int) := fun x hx => by unfold mx; split <;> omega
  simp only [interlocklaw02_Ins.j0, interlocklaw02_Ins.j1]
  generalize (Int.tdiv b 4) % 8 = c8 at h8 ⊢
  generalize (Int.tdiv b 4) % 4 = c4 at h44 e3 e4 ⊢
  generalize (Int.tdiv b 16) % 2 = d2 at h162 ⊢
  rw [e1]
  generalize b % 4 = r at h4 ⊢
  rcases (by omega : op = 0 ∨ op = 1 ∨ op = 2 ∨ op = 3 ∨ op = 4 ∨ op = 5 ∨ op = 6 ∨ op = 7 ∨ op = 8 ∨ op = 9 ∨ op = 10 ∨ op = 11 ∨ op = 13 ∨ op = 14 ∨ op = 15 ∨ op = 16 ∨ op = 17 ∨ op = 18 ∨ op = 19 ∨ op = 20 ∨ op = 21 ∨ op = 22 ∨ op = 23 ∨ op = 24 ∨ op = 25 ∨ op = 26 ∨ op = 27) with rfl | rfl | rfl | rfl | rfl | rfl | rfl | rfl | rfl | rfl | rfl | rfl | rfl | rfl | rfl | rfl | rfl | rfl | rfl | rfl | rfl | rfl | rfl | rfl | rfl | rfl | rfl
  case inr.inr.inr.inr.inr.inr.inr.inr.inr.inr.inr.inl =>
    by_cases h200 : b ≥ 200
    · refine ⟨(11, r, mx (wrap64 ((at_ : Int) - c4)) 0, 0), Ev.step (f := fun k => _) (fun k => by rw [if_neg (by decide), if_neg (by decide), if_neg (by decide), if_neg (by decide), if_neg (by decide)]; exact (show interlocklaw02_Ins.j0 (k + 1) b (at_ : Int) (n : Int) 11 r c4 d2 11 false = if b ≥ 200 then some (11, r, mx (wrap64 ((at_ : Int) - c4)) 0, 0) else some (11, r, mn (wrap64 ((wrap64 ((at_ : Int) + 1)) + c4)) (n : Int), 0) from rfl)) (Ev.congr (fun k => if_pos h200) (Ev.now _)), ?_⟩
      have := hmx (wrap64 ((at_ : Int) - c4)) (by rw [e4.out]; omega)
      exact good_of rfl (okW_reg (Or.inr rfl) h4) (okW_place this) (okW_zero (Or.inl rfl))
    · refine ⟨(11, r, mn (wrap64 ((wrap64 ((at_ : Int) + 1)) + c4)) (n : Int), 0), Ev.step (f := fun k => _) (fun k => by rw [if_neg (by decide), if_neg (by decide), if_neg (by decide), if_neg (by decide), if_neg (by decide)]; exact (show interlocklaw02_Ins.j0 (k + 1) b (at_ : Int) (n : Int) 11 r c4 d2 11 false = if b ≥ 200 then some (11, r, mx (wrap64 ((at_ : Int) - c4)) 0, 0) else some (11, r, mn (wrap64 ((wrap64 ((at_ : Int) + 1)) + c4)) (n : Int), 0) from rfl)) (Ev.congr (fun k => if_neg h200) (Ev.now _)), ?_⟩
      have := hmn (wrap64 ((wrap64 ((at_ : Int) + 1)) + c4)) (by rw [e2, e3.out]; omega)
      exact good_of rfl (okW_reg (Or.inr rfl) h4) (okW_place this) (okW_zero (Or.inl rfl))
  case inr.inr.inr.inr.inr.inr.inr.inr.inr.inr.inl =>
    have := hmn (wrap64 ((wrap64 ((at_ : Int) + 1)) + c4)) (by rw [e2, e3.out]; omega)
    exact ⟨(10, mn (wrap64 ((wrap64 ((at_ : Int) + 1)) + c4)) (n : Int), 0, 0), Ev.step (f := fun _ => _) (fun _ => rfl) (Ev.now _), good_of rfl (okW_place this) (okW_zero (Or.inl rfl)) (okW_zero (Or.inl rfl))⟩
  all_goals exact ⟨(_, _, _, _), ⟨2, fun k hk => by obtain ⟨k, rfl⟩ := Nat.exists_eq_add_of_le hk; rw [Nat.add_comm 2 k]; rfl⟩, good_of rfl (by first | exact okW_zero (Or.inl rfl) | exact okW_num | exact okW_reg (Or.inl rfl) h4 | exact okW_reg (Or.inr rfl) h4 | exact okW_var h162 | exact okW_high rfl) (by first | exact okW_zero (Or.inl rfl) | exact okW_num | exact okW_reg (Or.inl rfl) h4 | exact okW_reg (Or.inr rfl) h4 | exact okW_reg (Or.inr rfl) h44 | exact okW_var h162 | exact okW_high rfl) (by first | exact okW_zero (Or.inl rfl) | exact okW_reg (Or.inl rfl) h44 | exact okW_reg (Or.inr rfl) h44 | exact okW_reg (Or.inr rfl) h164)⟩
abbrev Q7 := Int × Int × Int × List Int × Int × Int × List (List S33)
def AllG (len : Nat) (c : List S33) : Prop := ∀ x ∈ c, Good len x
def MakeOK (r : Q7) : Prop := ∃ c : List S33, r = (2, 1, 1, [1], 1, 1, [c]) ∧ AllG c.length c ∧ c.length ≤ 9
def U8s (c : List Int) : Prop := ∀ x ∈ c, 0 ≤ x ∧ x ≤ 255
theorem U8s.at_ {c : List Int} (h : U8s c) {i : Nat} (hi : i < c.length) : 0 ≤ rd c (i : Int) ∧ rd c (i : Int) ≤ 255 := by
  refine h _ ?_
  show c.getD (i : Int).toNat 0 ∈ c
  rw [Int.toNat_natCast, List.getD_eq_getElem?_getD, List.getElem?_eq_getElem hi]
  exact List.getElem_mem hi
theorem AllG.snoc {len : Nat} {c : List S33} (h : AllG len c) {x : S33} (hx : Good len x) : AllG len (c ++ [x]) := by
  intro y hy
  rcases List.mem_append.1 hy with h1 | h1
  · exact h y h1
  · rw [List.mem_singleton.1 h1]; exact hx
/-- One instruction more. -/
def pushL (G : Nat → Option Q7) (code : List S33) : Nat → Option Q7 := fun k => if code.length < 4398046511104 then G k else none
theorem l4_ok (l : List (List Int)) (c : List Int) (hc : U8s c) (many : Nat) (hm : many ≤ 9) (h2 : 2 * many ≤ c.length) : ∀ (q m : Nat) (code : List S33), m + q = many → AllG many code → code.length = m →
    Gv MakeOK (fun k => interlocklaw02_Make.l4 k l 1 0 code 0 c (many : Int) (m : Int) 2 1 1 [1] 1 1 []) := by
  intro q
  induction q with
  | zero =>
    intro m code hmq ho hl
    refine Gv.step (f := fun k => interlocklaw02_Make.l0 k l 1 1 2 1 1 [1] 1 1 [code]) (fun k => ?_) (Gv.step (f := fun _ => some (2, 1, 1, [1], 1, 1, [code])) (fun k => ?_) (Gv.some_ ⟨code, rfl, by rw [hl, show m = many by omega]; exact ho, by omega⟩))
    · simp only [interlocklaw02_Make.l4]
      rw [if_neg (by omega), if_pos (by simp), w64 (by omega) (by omega)]; rfl
    · simp only [interlocklaw02_Make.l0]
      rw [if_neg (by omega)]
  | succ q ih =>
    intro m code hmq ho hl
    have E1 : Aside0 (wrap64 (2 * (m : Int)) = ((2 * m : Nat) : Int)) := ⟨by rw [w64 (by omega) (by omega)]; omega⟩
    have E2 : Aside0 (wrap64 (((2 * m : Nat) : Int) + 1) = ((2 * m + 1 : Nat) : Int)) := ⟨by rw [w64 (by omega) (by omega)]; rfl⟩
    have E3 : Aside0 (wrap64 ((m : Int) + 1) = ((m + 1 : Nat) : Int)) := ⟨by rw [w64 (by omega) (by omega)]; rfl⟩
    have E4 : Aside0 (wrap64 (0 + (m : Int)) = (m : Int)) := ⟨by rw [w64 (by omega) (by omega)]; omega⟩
    have E5 : Aside0 (wrap64 (0 + (many : Int)) = (many : Int)) := ⟨by rw [w64 (by omega) (by omega)]; omega⟩
    have hA := hc.at_ (i := 2 * m) (by omega)
    have hA2 := hc.at_ (i := 2 * m + 1) (by omega)
    refine Gv.step (f := fun k => (interlocklaw02_Ins.f k (rd c ((2 * m : Nat) : Int)) (rd c ((2 * m + 1 : Nat) : Int)) (m : Int) (many : Int)).bind (fun bt => pushL (fun k => interlocklaw02_Make.l4 k l 1 0 (code ++ [(⟨bt.1, bt.2.1, bt.2.2.1, bt.2.2.2⟩ : S33)]) 0 c (many : Int) ((m + 1 : Nat) : Int) 2 1 1 [1] 1 1 []) code k)) (fun k => ?_) (Gv.bind (ins_good _ _ m many hA.1 hA.2 hA2.1 hA2.2 (by omega) (by omega)) (fun bt hbt => ?_))
    rotate_left
    · exact Gv.congr (fun k => if_pos (by omega)) (ih (m + 1) _ (by omega) (ho.snoc hbt) (by rw [List.length_append, hl]; simp))
    simp only [interlocklaw02_Make.l4]
    rw [if_pos (by omega), E1.out, if_pos (by omega), if_pos (by omega), E2.out, if_pos (by omega), if_pos (by omega), E3.out, E4.out, E5.out]
    rfl
theorem mn_half (c : List Int) (hcl : c.length ≤ 9223372036854775807) : ∃ many : Nat, mn (wrap64 ((c.length : Int) / 2)) 9 = (many : Int) ∧ many ≤ 9 ∧ 2 * many ≤ c.length := by
  rw [w64 (by omega) (by omega)]
  by_cases h : 9 < (c.length : Int) / 2
  · exact ⟨9, by unfold mn; rw [if_pos h]; rfl, Nat.le_refl _, by omega⟩
  · exact ⟨c.length / 2, by unfold mn; rw [if_neg h]; omega, by omega, by omega⟩
theorem make1_ok (l : List Int) (hl : l.length ≤ 9223372036854775807) (hu : U8s l) : ∃ c, AllG c.length c ∧ c.length ≤ 9 ∧ Ev (fun k => interlocklaw02_Make.f k [l]) (2, 1, 1, [1], 1, 1, [c]) := by
  obtain ⟨many, e1, e2, e3⟩ := mn_half l hl
  have h : Gv MakeOK (fun k => interlocklaw02_Make.f k [l]) := by
    refine Gv.congr (g := fun k => interlocklaw02_Make.f k [l]) (f := fun k => interlocklaw02_Make.l0 k [l] 1 0 2 1 1 [1] 1 1 []) (fun k => rfl) ?_
    refine Gv.step (f := fun k => interlocklaw02_Make.l1 k [l] 1 0 [] 1 2 1 1 [1] 1 1 []) (fun k => by simp only [interlocklaw02_Make.l0]; rw [if_pos (by omega)]) ?_
    refine Gv.step (f := fun k => interlocklaw02_Make.l4 k [l] 1 0 [] 0 l (many : Int) 0 2 1 1 [1] 1 1 []) (fun k => ?_) ?_
    · have e1 : mn (wrap64 (((rd_L1 [l] 0).length : Int) / 2)) 9 = (many : Int) := e1
      simp only [interlocklaw02_Make.l1]
      rw [if_neg (by omega), if_pos (show (0 : Int) < ([l].length : Int) by simp), if_pos (by omega), e1]; rfl
    · exact l4_ok [l] l hu many e2 e3 many 0 [] (by omega) (fun x hx => by cases hx) rfl
  obtain ⟨_, h1, c, rfl, h2, h3⟩ := h
  exact ⟨c, h2, h3, h1⟩
/-! What is asked of a program of one thread: of all its instructions the same. -/
theorem mem_getD {c : List S33} {i : Nat} (hi : i < c.length) : c.getD i z33 ∈ c := by
  rw [List.getD_eq_getElem?_getD, List.getElem?_eq_getElem hi]; exact List.getElem_mem hi
theorem Good.reg {len w x : Int} (h : okW len w x) (hw : w = 2 ∨ w = 3) : 0 ≤ x ∧ x < 4 := by unfold okW at h; omega
theorem Good.var {len w x : Int} (h : okW len w x) (hw : w = 4) : 0 ≤ x ∧ x < 2 := by unfold okW at h; omega
theorem Good.place {len w x : Int} (h : okW len w x) (hw : w = 5) : 0 ≤ x ∧ x ≤ len := by unfold okW at h; omega
theorem Good.high {len w x : Int} (h : okW len w x) (hw : (decide (7 ≤ w) && decide (w ≤ 11)) = true) : 0 ≤ x ∧ x < 1 := by simp at hw; unfold okW at h; omega
theorem okI_of {n : Nat} {i : S33} (h : Good n i) : okI n lsA i := by
  obtain ⟨⟨h0, h1, h12⟩, ha, hb, hc⟩ := h
  obtain ⟨o, a, b, c⟩ := i
  refine ⟨h0, by show o ≤ 27; have : o < 28 := h1; omega, h12, ?_, ?_, ?_, ?_, ?_, ?_, ?_, ?_, ?_, ?_, ?_, ?_, ?_, ?_, ?_⟩
  all_goals
    intro hm
    simp only [List.mem_cons, List.not_mem_nil, or_false] at hm
    (repeat' (rcases hm with hm | hm)) <;> ((try subst hm); first | exact Good.reg ha (Or.inl rfl) | exact Good.reg ha (Or.inr rfl) | exact Good.reg hb (Or.inl rfl) | exact Good.reg hb (Or.inr rfl) | exact Good.reg hc (Or.inl rfl) | exact Good.reg hc (Or.inr rfl) | exact Good.var ha rfl | exact Good.var hb rfl | exact Good.place ha rfl | exact Good.place hb rfl | exact Good.high ha rfl | exact Good.high hb rfl)
end Go.Proofs.Yticdodbnjlnjlaa.Th
