import Derived.Test.YticdodbnjlnjlaaHB
import Derived.Test.YticdodbnjlnjlaaPx3
import Derived.Test.YticdodbnjlnjlaaPx2
set_option linter.unusedVariables false
namespace Go.Proofs.Yticdodbnjlnjlaa.Th
open Go Go.RowKit Go.Proofs.Yticdodbnjlnjlaa.P Go.Proofs.Yticdodbnjlnjlaa.Opn Go.Proofs.YticdodbnjlnjlaaW.PrintWords Go.Proofs.YticdodbnjlnjlaaW.PrintLast Go.Proofs.YticdodbnjlnjlaaW.PrintMore

/-- It comes to some r of which R holds. -/
def Gv {α : Type} (R : α → Prop) (g : Nat → Option α) : Prop := ∃ r, Ev g r ∧ R r
section
variable {α β : Type} {R : α → Prop}
theorem Gv.some_ {r : α} (h : R r) : Gv R (fun _ => some r) := ⟨r, Ev.now r, h⟩
theorem Gv.step {g f : Nat → Option α} (h : ∀ k, g (k + 1) = f k) (hf : Gv R f) : Gv R g := by
  obtain ⟨r, h1, h2⟩ := hf
  exact ⟨r, Ev.step h h1, h2⟩
theorem Gv.congr {g f : Nat → Option α} (h : ∀ k, g k = f k) (hf : Gv R f) : Gv R g := by
  obtain ⟨r, h1, h2⟩ := hf
  exact ⟨r, Ev.congr h h1, h2⟩
theorem Gv.ite {c : Prop} [Decidable c] {a b : Nat → Option α} (ha : c → Gv R a) (hb : ¬ c → Gv R b) : Gv R (fun k => if c then a k else b k) := by
  by_cases h : c
  · exact Gv.congr (fun k => if_pos h) (ha h)
  · exact Gv.congr (fun k => if_neg h) (hb h)
theorem Gv.pos {c : Prop} [Decidable c] {a b : Nat → Option α} (h : c) (ha : Gv R a) : Gv R (fun k => if c then a k else b k) := Gv.congr (fun _ => if_pos h) ha
theorem Gv.neg {c : Prop} [Decidable c] {a b : Nat → Option α} (h : ¬ c) (ha : Gv R b) : Gv R (fun k => if c then a k else b k) := Gv.congr (fun _ => if_neg h) ha
theorem Gv.bind {S : β → Prop} {g : Nat → Option β} {f : Nat → β → Option α} (hg : Gv S g) (hf : ∀ b, S b → Gv R (fun k => f k b)) : Gv R (fun k => (g k).bind (f k)) := by
  obtain ⟨b, h1, h2⟩ := hg
  obtain ⟨r, h3, h4⟩ := hf b h2
  exact ⟨r, Ev.bind h1 h3, h4⟩
theorem Gv.bind_ev {g : Nat → Option β} {b : β} {f : Nat → β → Option α} (hg : Ev g b) (hf : Gv R (fun k => f k b)) : Gv R (fun k => (g k).bind (f k)) := by
  obtain ⟨r, h3, h4⟩ := hf
  exact ⟨r, Ev.bind hg h3, h4⟩
theorem Gv.now {y : β} {f : Nat → β → Option α} (hf : Gv R (fun k => f k y)) : Gv R (fun k => (some y).bind (f k)) := hf
end
abbrev Q4 := Int × Int × Int × Int
theorem j1_ok (x1 x10 x11 x12 x34 : Int) (b : Bool) : Gv (fun r : Q4 => r.1 = x10) (fun k => interlocklaw02_Ins.j1 k x1 x10 x11 x12 x34 b) := by
  refine Gv.step (f := fun _ => _) (fun k => by simp only [interlocklaw02_Ins.j1]; rfl) ?_
  repeat' (first | exact Gv.some_ rfl | (refine Gv.ite (fun _ => ?_) (fun _ => ?_)))
theorem j0_ok (x1 x2 x3 x10 x11 x12 x13 x34 : Int) (b : Bool) : Gv (fun r : Q4 => r.1 = x10) (fun k => interlocklaw02_Ins.j0 k x1 x2 x3 x10 x11 x12 x13 x34 b) := by
  refine Gv.step (fun k => by simp only [interlocklaw02_Ins.j0]; rfl) ?_
  repeat' (first | exact Gv.some_ rfl | exact j1_ok _ _ _ _ _ _ | (refine Gv.ite (fun _ => ?_) (fun _ => ?_)))
def opsL : List Int := [7, 8, 9, 1, 3, 7, 8, 9, 13, 14, 15, 16, 17, 18, 19, 20, 21, 22, 23, 24, 25, 26, 27, 11, 10, 0, 2, 4, 5, 6, 7, 8, 13, 14, 9, 8]
theorem opsL_ok : ∀ x ∈ opsL, 0 ≤ x ∧ x ≤ 27 := by decide
theorem rd_opsL (i : Int) (h0 : 0 ≤ i) (h1 : i < 36) : 0 ≤ rd opsL i ∧ rd opsL i ≤ 27 := by
  refine opsL_ok _ ?_
  show opsL.getD i.toNat 0 ∈ opsL
  have : i.toNat < opsL.length := by show i.toNat < 36; omega
  rw [List.getD_eq_getElem?_getD, List.getElem?_eq_getElem this]
  exact List.getElem_mem this
theorem ins_ok (a b x n : Int) (ha0 : 0 ≤ a) (ha : a ≤ 255) : Gv (fun r : Q4 => 0 ≤ r.1 ∧ r.1 ≤ 27) (fun k => interlocklaw02_Ins.f k a b x n) := by
  unfold interlocklaw02_Ins.f
  refine Gv.now (y := opsL) ?_
  have e : ((opsL.length : Nat) : Int) = 36 := rfl
  have hq : 0 ≤ Int.tmod (wrap64 a) 36 ∧ Int.tmod (wrap64 a) 36 < 36 := by
    rw [w64 (by omega) (by omega), Int.tmod_eq_emod_of_nonneg ha0]; omega
  refine Gv.neg (by rw [e]; decide) ?_
  rw [e]
  generalize Int.tmod (wrap64 a) 36 = q at hq ⊢
  refine Gv.pos hq.1 (Gv.pos hq.2 ?_)
  have hr := rd_opsL q hq.1 hq.2
  generalize rd opsL q = op at hr ⊢
  have weak : ∀ {g : Nat → Option Q4}, Gv (fun r : Q4 => r.1 = op) g → Gv (fun r : Q4 => 0 ≤ r.1 ∧ r.1 ≤ 27) g := fun ⟨r, h1, h2⟩ => ⟨r, h1, by
    have h3 : r.1 = op := h2
    show 0 ≤ r.1 ∧ r.1 ≤ 27
    rw [h3]; exact hr⟩
  repeat' (first | exact Gv.some_ hr | exact weak (j0_ok _ _ _ _ _ _ _ _ _) | (refine Gv.ite (fun _ => ?_) (fun _ => ?_)))

abbrev Q7 := Int × Int × Int × List Int × Int × Int × List (List S33)
def thr (r : Q7) : List (List S33) := r.2.2.2.2.2.2
def CodeOK (c : List S33) : Prop := OpsOK c ∧ c.length ≤ 11
def MakeOK (n : Nat) (r : Q7) : Prop := (thr r).length = n ∧ ∀ c ∈ thr r, CodeOK c
def U8s (c : List Int) : Prop := ∀ x ∈ c, 0 ≤ x ∧ x ≤ 255
theorem U8s.at_ {c : List Int} (h : U8s c) {i : Nat} (hi : i < c.length) : 0 ≤ rd c (i : Int) ∧ rd c (i : Int) ≤ 255 := by
  refine h _ ?_
  show c.getD (i : Int).toNat 0 ∈ c
  rw [Int.toNat_natCast, List.getD_eq_getElem?_getD, List.getElem?_eq_getElem hi]
  exact List.getElem_mem hi
theorem OpsOK.snoc {c : List S33} (h : OpsOK c) {x : S33} (hx : 0 ≤ x.f0 ∧ x.f0 ≤ 255) : OpsOK (c ++ [x]) := by
  intro y hy
  rcases List.mem_append.1 hy with h1 | h1
  · exact h y h1
  · rw [List.mem_singleton.1 h1]; exact hx
section
variable (l : List (List Int)) (n : Nat) (a b d e f : Int) (ch : List Int)
/-- What follows behind a thread. -/
def Next (i : Nat) (TH : List (List S33)) : Prop := ∀ code : List S33, CodeOK code → Gv (MakeOK n) (fun k => interlocklaw02_Make.l0 k l (n : Int) ((i + 1 : Nat) : Int) a b d ch e f (TH ++ [code]))
/-- One instruction more. -/
def pushL (G : List (List Int) → Int → Int → List S33 → Int → List Int → Int → Int → Int → Int → Int → List Int → Int → Int → List (List S33) → Option Q7) (l : List (List Int)) (n i : Nat) (code : List S33) (hd : Nat) (c : List Int) (many : Nat) (m : Int) (a b d : Int) (ch : List Int) (e f : Int) (TH : List (List S33)) (bt : Q4) : Option Q7 :=
  if code.length < 4398046511104 then G l (n : Int) (i : Int) (code ++ [(⟨bt.1, bt.2.1, bt.2.2.1, bt.2.2.2⟩ : S33)]) (hd : Int) c (many : Int) m a b d ch e f TH else none
theorem push_eq (G : List (List Int) → Int → Int → List S33 → Int → List Int → Int → Int → Int → Int → Int → List Int → Int → Int → List (List S33) → Option Q7) (l : List (List Int)) (n i : Nat) (code : List S33) (hd : Nat) (c : List Int) (many : Nat) (m : Int) (a b d : Int) (ch : List Int) (e f : Int) (TH : List (List S33)) (bt : Q4) (h : code.length < 4398046511104) :
    pushL G l n i code hd c many m a b d ch e f TH bt = G l (n : Int) (i : Int) (code ++ [(⟨bt.1, bt.2.1, bt.2.2.1, bt.2.2.2⟩ : S33)]) (hd : Int) c (many : Int) m a b d ch e f TH := if_pos h
theorem l2_ok (i : Nat) (hi : i < 3) (TH : List (List S33)) (hT : TH.length = i) (hN : Next l n a b d e f ch i TH) (c : List Int) (hc : U8s c) (hd many : Nat) (hm : many ≤ 9) (h2 : 2 * many ≤ c.length) (hcl : c.length ≤ 9223372036854775807) (hh : hd ≤ 2) : ∀ (q m : Nat) (code : List S33), m + q = many → OpsOK code → code.length = hd + m →
    Gv (MakeOK n) (fun k => interlocklaw02_Make.l2 k l (n : Int) (i : Int) code (hd : Int) c (many : Int) (m : Int) a b d ch e f TH) := by
  intro q
  induction q with
  | zero =>
    intro m code hmq ho hl
    refine Gv.step (f := fun k => interlocklaw02_Make.l0 k l (n : Int) ((i + 1 : Nat) : Int) a b d ch e f (TH ++ [code])) (fun k => ?_) (hN code ⟨ho, by omega⟩)
    simp only [interlocklaw02_Make.l2]
    rw [if_neg (by omega), if_pos (by omega), w64 (by omega) (by omega)]; rfl
  | succ q ih =>
    intro m code hmq ho hl
    have E1 : Aside0 (wrap64 (2 * (m : Int)) = ((2 * m : Nat) : Int)) := ⟨by rw [w64 (by omega) (by omega)]; omega⟩
    have E2 : Aside0 (wrap64 (((2 * m : Nat) : Int) + 1) = ((2 * m + 1 : Nat) : Int)) := ⟨by rw [w64 (by omega) (by omega)]; rfl⟩
    have E3 : Aside0 (wrap64 ((m : Int) + 1) = ((m + 1 : Nat) : Int)) := ⟨by rw [w64 (by omega) (by omega)]; rfl⟩
    have hA := hc.at_ (i := 2 * m) (by omega)
    refine Gv.step (f := fun k => (interlocklaw02_Ins.f k (rd c ((2 * m : Nat) : Int)) (rd c ((2 * m + 1 : Nat) : Int)) (wrap64 ((hd : Int) + (m : Int))) (wrap64 ((hd : Int) + (many : Int)))).bind (pushL (interlocklaw02_Make.l2 k) l n i code hd c many ((m + 1 : Nat) : Int) a b d ch e f TH)) (fun k => ?_) (Gv.bind (ins_ok _ _ _ _ hA.1 hA.2) (fun bt hbt => ?_))
    rotate_left
    · refine Gv.congr (fun k => push_eq _ _ _ _ _ _ _ _ _ _ _ _ _ _ _ _ _ (by omega)) (ih (m + 1) _ (by omega) (ho.snoc ⟨hbt.1, by have := hbt.2; show bt.1 ≤ 255; omega⟩) (by rw [List.length_append, hl]; simp; omega))
    simp only [interlocklaw02_Make.l2]
    rw [if_pos (by omega), E1.out, if_pos (by omega), if_pos (by omega), E2.out, if_pos (by omega), if_pos (by omega), E3.out]
    rfl
theorem l4_ok (i : Nat) (hi : i < 3) (TH : List (List S33)) (hT : TH.length = i) (hN : Next l n a b d e f ch i TH) (c : List Int) (hc : U8s c) (hd many : Nat) (hm : many ≤ 9) (h2 : 2 * many ≤ c.length) (hcl : c.length ≤ 9223372036854775807) (hh : hd ≤ 2) : ∀ (q m : Nat) (code : List S33), m + q = many → OpsOK code → code.length = hd + m →
    Gv (MakeOK n) (fun k => interlocklaw02_Make.l4 k l (n : Int) (i : Int) code (hd : Int) c (many : Int) (m : Int) a b d ch e f TH) := by
  intro q
  induction q with
  | zero =>
    intro m code hmq ho hl
    refine Gv.step (f := fun k => interlocklaw02_Make.l0 k l (n : Int) ((i + 1 : Nat) : Int) a b d ch e f (TH ++ [code])) (fun k => ?_) (hN code ⟨ho, by omega⟩)
    simp only [interlocklaw02_Make.l4]
    rw [if_neg (by omega), if_pos (by omega), w64 (by omega) (by omega)]; rfl
  | succ q ih =>
    intro m code hmq ho hl
    have E1 : Aside0 (wrap64 (2 * (m : Int)) = ((2 * m : Nat) : Int)) := ⟨by rw [w64 (by omega) (by omega)]; omega⟩
    have E2 : Aside0 (wrap64 (((2 * m : Nat) : Int) + 1) = ((2 * m + 1 : Nat) : Int)) := ⟨by rw [w64 (by omega) (by omega)]; rfl⟩
    have E3 : Aside0 (wrap64 ((m : Int) + 1) = ((m + 1 : Nat) : Int)) := ⟨by rw [w64 (by omega) (by omega)]; rfl⟩
    have hA := hc.at_ (i := 2 * m) (by omega)
    refine Gv.step (f := fun k => (interlocklaw02_Ins.f k (rd c ((2 * m : Nat) : Int)) (rd c ((2 * m + 1 : Nat) : Int)) (wrap64 ((hd : Int) + (m : Int))) (wrap64 ((hd : Int) + (many : Int)))).bind (pushL (interlocklaw02_Make.l4 k) l n i code hd c many ((m + 1 : Nat) : Int) a b d ch e f TH)) (fun k => ?_) (Gv.bind (ins_ok _ _ _ _ hA.1 hA.2) (fun bt hbt => ?_))
    rotate_left
    · refine Gv.congr (fun k => push_eq _ _ _ _ _ _ _ _ _ _ _ _ _ _ _ _ _ (by omega)) (ih (m + 1) _ (by omega) (ho.snoc ⟨hbt.1, by have := hbt.2; show bt.1 ≤ 255; omega⟩) (by rw [List.length_append, hl]; simp; omega))
    simp only [interlocklaw02_Make.l4]
    rw [if_pos (by omega), E1.out, if_pos (by omega), if_pos (by omega), E2.out, if_pos (by omega), if_pos (by omega), E3.out]
    rfl
theorem l3_ok (i : Nat) (hi : i < 3) (TH : List (List S33)) (hT : TH.length = i) (hN : Next l n a b d e f ch i TH) (code : List S33) (ho : CodeOK code) :
    Gv (MakeOK n) (fun k => interlocklaw02_Make.l3 k l (n : Int) (i : Int) code 0 0 a b d ch e f TH) := by
  refine Gv.step (f := fun k => interlocklaw02_Make.l0 k l (n : Int) ((i + 1 : Nat) : Int) a b d ch e f (TH ++ [code])) (fun k => ?_) (hN code ho)
  simp only [interlocklaw02_Make.l3]
  rw [if_neg (by omega), if_pos (by omega), w64 (by omega) (by omega)]; rfl
theorem mn_half (c : List Int) (hcl : c.length ≤ 9223372036854775807) : ∃ many : Nat, mn (wrap64 ((c.length : Int) / 2)) 9 = (many : Int) ∧ many ≤ 9 ∧ 2 * many ≤ c.length := by
  rw [w64 (by omega) (by omega)]
  by_cases h : 9 < (c.length : Int) / 2
  · exact ⟨9, by unfold mn; rw [if_pos h]; rfl, Nat.le_refl _, by omega⟩
  · exact ⟨c.length / 2, by unfold mn; rw [if_neg h]; omega, by omega, by omega⟩
theorem rd_rows (hl : ∀ c ∈ l, c.length ≤ 9223372036854775807 ∧ U8s c) (i : Nat) (hi : i < l.length) : (rd_L1 l (i : Int)).length ≤ 9223372036854775807 ∧ U8s (rd_L1 l (i : Int)) := by
  refine hl _ ?_
  show l.getD (i : Int).toNat [] ∈ l
  rw [Int.toNat_natCast, List.getD_eq_getElem?_getD, List.getElem?_eq_getElem hi]
  exact List.getElem_mem hi
theorem l1_ok (hl : ∀ c ∈ l, c.length ≤ 9223372036854775807 ∧ U8s c) (_hll : l.length ≤ 9223372036854775807) (i : Nat) (hi : i < 3) (hn : n ≤ 3) (TH : List (List S33)) (hT : TH.length = i) (hN : Next l n a b d e f ch i TH) : ∀ (q m : Nat) (code : List S33), m + q = n → 1 ≤ m → OpsOK code → code.length + 1 ≤ m →
    Gv (MakeOK n) (fun k => interlocklaw02_Make.l1 k l (n : Int) (i : Int) code (m : Int) a b d ch e f TH) := by
  have tail4 : ∀ code : List S33, OpsOK code → code.length ≤ 2 → Gv (MakeOK n) (fun k => if (i : Int) < (l.length : Int) then (if 0 ≤ (i : Int) then (interlocklaw02_Make.l4 k l (n : Int) (i : Int) code (code.length : Int) (rd_L1 l (i : Int)) (mn (wrap64 (((rd_L1 l (i : Int)).length : Int) / 2)) 9) 0 a b d ch e f TH) else (none)) else (interlocklaw02_Make.l3 k l (n : Int) (i : Int) code 0 0 a b d ch e f TH)) := by
    intro code ho hlen
    refine Gv.ite (fun h => Gv.pos (by omega) ?_) (fun h => l3_ok l n a b d e f ch i hi TH hT hN code ⟨ho, by omega⟩)
    obtain ⟨r1, r2⟩ := rd_rows l hl i (by omega)
    obtain ⟨many, e1, e2, e3⟩ := mn_half (rd_L1 l (i : Int)) r1
    rw [e1]
    exact l4_ok l n a b d e f ch i hi TH hT hN _ r2 code.length many e2 e3 r1 hlen many 0 code (by omega) ho (by omega)
  have tail2 : ∀ code : List S33, OpsOK code → code.length ≤ 2 → Gv (MakeOK n) (fun k => if (i : Int) < (l.length : Int) then (if 0 ≤ (i : Int) then (interlocklaw02_Make.l2 k l (n : Int) (i : Int) code (code.length : Int) (rd_L1 l (i : Int)) (mn (wrap64 (((rd_L1 l (i : Int)).length : Int) / 2)) 9) 0 a b d ch e f TH) else (none)) else (interlocklaw02_Make.l3 k l (n : Int) (i : Int) code 0 0 a b d ch e f TH)) := by
    intro code ho hlen
    refine Gv.ite (fun h => Gv.pos (by omega) ?_) (fun h => l3_ok l n a b d e f ch i hi TH hT hN code ⟨ho, by omega⟩)
    obtain ⟨r1, r2⟩ := rd_rows l hl i (by omega)
    obtain ⟨many, e1, e2, e3⟩ := mn_half (rd_L1 l (i : Int)) r1
    rw [e1]
    exact l2_ok l n a b d e f ch i hi TH hT hN _ r2 code.length many e2 e3 r1 hlen many 0 code (by omega) ho (by omega)
  intro q
  induction q with
  | zero =>
    intro m code hmq hm1 ho hlen
    refine Gv.step (fun k => ?_) (tail4 code ho (by omega))
    simp only [interlocklaw02_Make.l1]
    rw [if_neg (by omega)]
  | succ q ih =>
    intro m code hmq hm1 ho hlen
    have E3 : Aside0 (wrap64 ((m : Int) + 1) = ((m + 1 : Nat) : Int)) := ⟨by rw [w64 (by omega) (by omega)]; rfl⟩
    by_cases h0 : (i : Int) = 0
    · refine Gv.step (f := fun k => interlocklaw02_Make.l1 k l (n : Int) (i : Int) (code ++ [(⟨12, (m : Int), 0, 0⟩ : S33)]) ((m + 1 : Nat) : Int) a b d ch e f TH) (fun k => ?_) (ih (m + 1) _ (by omega) (by omega) (ho.snoc ⟨by show (0 : Int) ≤ 12; omega, by show (12 : Int) ≤ 255; omega⟩) (by rw [List.length_append]; simp; omega))
      simp only [interlocklaw02_Make.l1]
      rw [if_pos (by omega), if_pos h0, if_pos (by omega), E3.out]
    · refine Gv.step (fun k => ?_) (tail2 code ho (by omega))
      simp only [interlocklaw02_Make.l1]
      rw [if_pos (by omega), if_neg h0]
theorem l0_ok (hl : ∀ c ∈ l, c.length ≤ 9223372036854775807 ∧ U8s c) (hll : l.length ≤ 9223372036854775807) (hn : n ≤ 3) (hn1 : 1 ≤ n) : ∀ (q i : Nat) (TH : List (List S33)), i + q = n → TH.length = i → (∀ c ∈ TH, CodeOK c) →
    Gv (MakeOK n) (fun k => interlocklaw02_Make.l0 k l (n : Int) (i : Int) a b d ch e f TH) := by
  intro q
  induction q with
  | zero =>
    intro i TH hiq hT hA
    refine Gv.step (f := fun _ => some (a, b, d, ch, e, f, TH)) (fun k => ?_) (Gv.some_ ⟨by show TH.length = n; omega, hA⟩)
    simp only [interlocklaw02_Make.l0]
    rw [if_neg (by omega)]
  | succ q ih =>
    intro i TH hiq hT hA
    have hN : Next l n a b d e f ch i TH := fun code hc => ih (i + 1) (TH ++ [code]) (by omega) (by rw [List.length_append, hT]; rfl) (fun c hm => by
      rcases List.mem_append.1 hm with h1 | h1
      · exact hA c h1
      · rw [List.mem_singleton.1 h1]; exact hc)
    refine Gv.step (f := fun k => interlocklaw02_Make.l1 k l (n : Int) (i : Int) ([] : List S33) ((1 : Nat) : Int) a b d ch e f TH) (fun k => ?_) (l1_ok l n a b d e f ch hl hll i (by omega) hn TH hT hN (n - 1) 1 [] (by omega) (Nat.le_refl _) (fun x hx => by cases hx) (Nat.le_refl _))
    simp only [interlocklaw02_Make.l0]
    rw [if_pos (by omega)]; rfl
end
theorem make_ok (l : List (List Int)) (hl : ∀ c ∈ l, c.length ≤ 9223372036854775807 ∧ U8s c) (hll : l.length ≤ 9223372036854775807) :
    Gv (fun r : Q7 => 1 ≤ (thr r).length ∧ (thr r).length ≤ 3 ∧ ∀ c ∈ thr r, CodeOK c) (fun k => interlocklaw02_Make.f k l) := by
  obtain ⟨n, e1, h1, h3⟩ : ∃ n : Nat, mx (mn (l.length : Int) 3) 1 = (n : Int) ∧ 1 ≤ n ∧ n ≤ 3 := by
    have : l.length = 0 ∨ l.length = 1 ∨ l.length = 2 ∨ 3 ≤ l.length := by omega
    rcases this with h | h | h | h
    · exact ⟨1, by rw [h]; rfl, by omega, by omega⟩
    · exact ⟨1, by rw [h]; rfl, by omega, by omega⟩
    · exact ⟨2, by rw [h]; rfl, by omega, by omega⟩
    · refine ⟨3, ?_, by omega, by omega⟩
      have : mn (l.length : Int) 3 = 3 := by unfold mn; split <;> omega
      rw [this]; rfl
  obtain ⟨r, hr1, hr2, hr3⟩ := l0_ok l n 2 1 1 1 1 [1] hl hll h3 h1 n 0 [] (by omega) rfl (fun c h => by cases h)
  refine ⟨r, Ev.congr (fun k => ?_) hr1, by omega, by omega, hr3⟩
  unfold interlocklaw02_Make.f
  rw [e1]; rfl
theorem rd_thr (t : List (List S33)) (h : ∀ c ∈ t, CodeOK c) (i : Nat) (hi : i < t.length) : CodeOK (t.getD i []) := by
  refine h _ ?_
  rw [List.getD_eq_getElem?_getD, List.getElem?_eq_getElem hi]
  exact List.getElem_mem hi
/-- What the statement's bounds say. -/
theorem wf_rows {l : List (List Int)} (h : l.length ≤ 9223372036854775807 ∧ ∀ x ∈ l, (fun xs : List Int => xs.length ≤ 9223372036854775807 ∧ ∀ x ∈ xs, (fun x => (Lit.int .u8 x).wf = true) x) x) : (∀ c ∈ l, c.length ≤ 9223372036854775807 ∧ U8s c) ∧ l.length ≤ 9223372036854775807 :=
  ⟨fun c hc => ⟨(h.2 c hc).1, fun x hx => by
    have := (h.2 c hc).2 x hx
    have h2 : (Lit.int .u8 x).wf = true := this
    have m1 : IntKind.u8.min = 0 := rfl
    have m2 : IntKind.u8.max = 255 := rfl
    simp [Lit.wf, m1, m2] at h2
    exact ⟨by omega, by omega⟩⟩, h.1⟩
end Go.Proofs.Yticdodbnjlnjlaa.Th
