import Derived.Test.YtkkhjfkgfmodnaaIM1
import Derived.Test.YtkkhjfkgfmodnaaPx2
namespace Go.Proofs.Ytkkhjfkgfmodnaa.Pure
open Go Go.RowKit Go.Proofs.Ytkkhjfkgfmodnaa.P Go.Proofs.Ytkkhjfkgfmodnaa.Opn Go.Proofs.YtkkhjfkgfmodnaaW.PrintWords Go.Proofs.YtkkhjfkgfmodnaaW.PrintLast Go.Proofs.YtkkhjfkgfmodnaaW.PrintMore
abbrev Q7 := Int × Int × Int × List Int × Int × Int × List (List S30)
def AllG (t len : Nat) (c : List S30) : Prop := ∀ x ∈ c, Good t len x
def CodeG (t : Nat) (c : List S30) : Prop := AllG t c.length c ∧ c.length ≤ 11
def MakeOK (n : Nat) (r : Q7) : Prop := ∃ th, r = (2, 1, 1, [1], 1, 1, th) ∧ th.length = n ∧ ∀ c ∈ th, CodeG n c
def U8s (c : List Int) : Prop := ∀ x ∈ c, 0 ≤ x ∧ x ≤ 255
theorem U8s.at_ {c : List Int} (h : U8s c) {i : Nat} (hi : i < c.length) : 0 ≤ rd c (i : Int) ∧ rd c (i : Int) ≤ 255 := by
  refine h _ ?_
  show c.getD (i : Int).toNat 0 ∈ c
  rw [Int.toNat_natCast, List.getD_eq_getElem?_getD, List.getElem?_eq_getElem hi]
  exact List.getElem_mem hi
theorem AllG.snoc {t len : Nat} {c : List S30} (h : AllG t len c) {x : S30} (hx : Good t len x) : AllG t len (c ++ [x]) := by
  intro y hy
  rcases List.mem_append.1 hy with h1 | h1
  · exact h y h1
  · rw [List.mem_singleton.1 h1]; exact hx
theorem AllG.more {t len t' len' : Nat} {c : List S30} (h : AllG t len c) (ht : t ≤ t') (hl : len ≤ len') : AllG t' len' c := fun x hx => (h x hx).more ht hl
section
variable (l : List (List Int)) (n : Nat)
/-- What follows behind a thread. -/
def Next (i : Nat) (TH : List (List S30)) : Prop := ∀ code : List S30, CodeG n code → Gv (MakeOK n) (fun k => interlocklaw02_Make.l0 k l (n : Int) ((i + 1 : Nat) : Int) 2 1 1 [1] 1 1 (TH ++ [code]))
/-- One instruction more. -/
def pushL (G : List (List Int) → Int → Int → List S30 → Int → List Int → Int → Int → Int → Int → Int → List Int → Int → Int → List (List S30) → Option Q7) (l : List (List Int)) (n i : Nat) (code : List S30) (hd : Nat) (c : List Int) (many : Nat) (m : Int) (TH : List (List S30)) (bt : Q4) : Option Q7 :=
  if code.length < 4398046511104 then G l (n : Int) (i : Int) (code ++ [(⟨bt.1, bt.2.1, bt.2.2.1, bt.2.2.2⟩ : S30)]) (hd : Int) c (many : Int) m 2 1 1 [1] 1 1 TH else none
theorem push_eq (G : List (List Int) → Int → Int → List S30 → Int → List Int → Int → Int → Int → Int → Int → List Int → Int → Int → List (List S30) → Option Q7) (l : List (List Int)) (n i : Nat) (code : List S30) (hd : Nat) (c : List Int) (many : Nat) (m : Int) (TH : List (List S30)) (bt : Q4) (h : code.length < 4398046511104) :
    pushL G l n i code hd c many m TH bt = G l (n : Int) (i : Int) (code ++ [(⟨bt.1, bt.2.1, bt.2.2.1, bt.2.2.2⟩ : S30)]) (hd : Int) c (many : Int) m 2 1 1 [1] 1 1 TH := if_pos h
theorem l2_ok (i : Nat) (hi : i < 3) (TH : List (List S30)) (hT : TH.length = i) (hN : Next l n i TH) (c : List Int) (hc : U8s c) (hd many : Nat) (hm : many ≤ 9) (h2 : 2 * many ≤ c.length) (_hcl : c.length ≤ 9223372036854775807) (hh : hd ≤ 2) : ∀ (q m : Nat) (code : List S30), m + q = many → AllG n (hd + many) code → code.length = hd + m →
    Gv (MakeOK n) (fun k => interlocklaw02_Make.l2 k l (n : Int) (i : Int) code (hd : Int) c (many : Int) (m : Int) 2 1 1 [1] 1 1 TH) := by
  intro q
  induction q with
  | zero =>
    intro m code hmq ho hl
    refine Gv.step (f := fun k => interlocklaw02_Make.l0 k l (n : Int) ((i + 1 : Nat) : Int) 2 1 1 [1] 1 1 (TH ++ [code])) (fun k => ?_) (hN code ⟨by rw [hl, show m = many by omega]; exact ho, by omega⟩)
    simp only [interlocklaw02_Make.l2]
    rw [if_neg (by omega), if_pos (by omega), w64 (by omega) (by omega)]; rfl
  | succ q ih =>
    intro m code hmq ho hl
    have E1 : Aside0 (wrap64 (2 * (m : Int)) = ((2 * m : Nat) : Int)) := ⟨by rw [w64 (by omega) (by omega)]; omega⟩
    have E2 : Aside0 (wrap64 (((2 * m : Nat) : Int) + 1) = ((2 * m + 1 : Nat) : Int)) := ⟨by rw [w64 (by omega) (by omega)]; rfl⟩
    have E3 : Aside0 (wrap64 ((m : Int) + 1) = ((m + 1 : Nat) : Int)) := ⟨by rw [w64 (by omega) (by omega)]; rfl⟩
    have E4 : Aside0 (wrap64 ((hd : Int) + (m : Int)) = ((hd + m : Nat) : Int)) := ⟨by rw [w64 (by omega) (by omega)]; rfl⟩
    have E5 : Aside0 (wrap64 ((hd : Int) + (many : Int)) = ((hd + many : Nat) : Int)) := ⟨by rw [w64 (by omega) (by omega)]; rfl⟩
    have hA := hc.at_ (i := 2 * m) (by omega)
    have hA2 := hc.at_ (i := 2 * m + 1) (by omega)
    refine Gv.step (f := fun k => (interlocklaw02_Ins.f k (rd c ((2 * m : Nat) : Int)) (rd c ((2 * m + 1 : Nat) : Int)) ((hd + m : Nat) : Int) ((hd + many : Nat) : Int)).bind (pushL (interlocklaw02_Make.l2 k) l n i code hd c many ((m + 1 : Nat) : Int) TH)) (fun k => ?_) (Gv.bind (ins_good _ _ (hd + m) (hd + many) n hA.1 hA.2 hA2.1 hA2.2 (by omega) (by omega)) (fun bt hbt => ?_))
    rotate_left
    · refine Gv.congr (fun k => push_eq _ _ _ _ _ _ _ _ _ _ _ (by omega)) (ih (m + 1) _ (by omega) (ho.snoc hbt) (by rw [List.length_append, hl]; simp; omega))
    simp only [interlocklaw02_Make.l2]
    rw [if_pos (by omega), E1.out, if_pos (by omega), if_pos (by omega), E2.out, if_pos (by omega), if_pos (by omega), E3.out, E4.out, E5.out]
    rfl
theorem l4_ok (i : Nat) (hi : i < 3) (TH : List (List S30)) (hT : TH.length = i) (hN : Next l n i TH) (c : List Int) (hc : U8s c) (hd many : Nat) (hm : many ≤ 9) (h2 : 2 * many ≤ c.length) (_hcl : c.length ≤ 9223372036854775807) (hh : hd ≤ 2) : ∀ (q m : Nat) (code : List S30), m + q = many → AllG n (hd + many) code → code.length = hd + m →
    Gv (MakeOK n) (fun k => interlocklaw02_Make.l4 k l (n : Int) (i : Int) code (hd : Int) c (many : Int) (m : Int) 2 1 1 [1] 1 1 TH) := by
  intro q
  induction q with
  | zero =>
    intro m code hmq ho hl
    refine Gv.step (f := fun k => interlocklaw02_Make.l0 k l (n : Int) ((i + 1 : Nat) : Int) 2 1 1 [1] 1 1 (TH ++ [code])) (fun k => ?_) (hN code ⟨by rw [hl, show m = many by omega]; exact ho, by omega⟩)
    simp only [interlocklaw02_Make.l4]
    rw [if_neg (by omega), if_pos (by omega), w64 (by omega) (by omega)]; rfl
  | succ q ih =>
    intro m code hmq ho hl
    have E1 : Aside0 (wrap64 (2 * (m : Int)) = ((2 * m : Nat) : Int)) := ⟨by rw [w64 (by omega) (by omega)]; omega⟩
    have E2 : Aside0 (wrap64 (((2 * m : Nat) : Int) + 1) = ((2 * m + 1 : Nat) : Int)) := ⟨by rw [w64 (by omega) (by omega)]; rfl⟩
    have E3 : Aside0 (wrap64 ((m : Int) + 1) = ((m + 1 : Nat) : Int)) := ⟨by rw [w64 (by omega) (by omega)]; rfl⟩
    have E4 : Aside0 (wrap64 ((hd : Int) + (m : Int)) = ((hd + m : Nat) : Int)) := ⟨by rw [w64 (by omega) (by omega)]; rfl⟩
    have E5 : Aside0 (wrap64 ((hd : Int) + (many : Int)) = ((hd + many : Nat) : Int)) := ⟨by rw [w64 (by omega) (by omega)]; rfl⟩
    have hA := hc.at_ (i := 2 * m) (by omega)
    have hA2 := hc.at_ (i := 2 * m + 1) (by omega)
    refine Gv.step (f := fun k => (interlocklaw02_Ins.f k (rd c ((2 * m : Nat) : Int)) (rd c ((2 * m + 1 : Nat) : Int)) ((hd + m : Nat) : Int) ((hd + many : Nat) : Int)).bind (pushL (interlocklaw02_Make.l4 k) l n i code hd c many ((m + 1 : Nat) : Int) TH)) (fun k => ?_) (Gv.bind (ins_good _ _ (hd + m) (hd + many) n hA.1 hA.2 hA2.1 hA2.2 (by omega) (by omega)) (fun bt hbt => ?_))
    rotate_left
    · refine Gv.congr (fun k => push_eq _ _ _ _ _ _ _ _ _ _ _ (by omega)) (ih (m + 1) _ (by omega) (ho.snoc hbt) (by rw [List.length_append, hl]; simp; omega))
    simp only [interlocklaw02_Make.l4]
    rw [if_pos (by omega), E1.out, if_pos (by omega), if_pos (by omega), E2.out, if_pos (by omega), if_pos (by omega), E3.out, E4.out, E5.out]
    rfl
theorem l3_ok (i : Nat) (hi : i < 3) (TH : List (List S30)) (hT : TH.length = i) (hN : Next l n i TH) (code : List S30) (ho : CodeG n code) :
    Gv (MakeOK n) (fun k => interlocklaw02_Make.l3 k l (n : Int) (i : Int) code 0 0 2 1 1 [1] 1 1 TH) := by
  refine Gv.step (f := fun k => interlocklaw02_Make.l0 k l (n : Int) ((i + 1 : Nat) : Int) 2 1 1 [1] 1 1 (TH ++ [code])) (fun k => ?_) (hN code ho)
  simp only [interlocklaw02_Make.l3]
  rw [if_neg (by omega), if_pos (by omega), w64 (by omega) (by omega)]; rfl
theorem mn_half (c : List Int) (hcl : c.length ≤ 9223372036854775807) : ∃ many : Nat, mn (wrap64 ((c.length : Int) / 2)) 9 = (many : Int) ∧ many ≤ 9 ∧ 2 * many ≤ c.length := by
  rw [w64 (by omega) (by omega)]
  by_cases h : 9 < (c.length : Int) / 2
  · exact ⟨9, by unfold mn; rw [if_pos h]; rfl, Nat.le_refl _, by omega⟩
  · exact ⟨c.length / 2, by unfold mn; rw [if_neg h]; omega, by omega, by omega⟩
theorem rd_rows (hl : ∀ c ∈ l, c.length ≤ 9223372036854775807 ∧ U8s c) (i : Nat) (hi : i < l.length) : (rd_L1 l (i : Int)).length ≤ 9223372036854775807 ∧ U8s (rd_L1 l (i : Int)) := by
  refine hl _ ?_
  show l.getD (i : Int).toNat [] ∈ l
  rw [Int.toNat_natCast, List.getD_eq_getElem?_getD, List.getElem?_eq_getElem hi]
  exact List.getElem_mem hi
theorem l1_ok (hl : ∀ c ∈ l, c.length ≤ 9223372036854775807 ∧ U8s c) (_hll : l.length ≤ 9223372036854775807) (i : Nat) (hi : i < 3) (hn : n ≤ 3) (TH : List (List S30)) (hT : TH.length = i) (hN : Next l n i TH) : ∀ (q m : Nat) (code : List S30), m + q = n → 1 ≤ m → AllG n 0 code → code.length + 1 ≤ m →
    Gv (MakeOK n) (fun k => interlocklaw02_Make.l1 k l (n : Int) (i : Int) code (m : Int) 2 1 1 [1] 1 1 TH) := by
  have tail4 : ∀ code : List S30, AllG n 0 code → code.length ≤ 2 → Gv (MakeOK n) (fun k => if (i : Int) < (l.length : Int) then (if 0 ≤ (i : Int) then (interlocklaw02_Make.l4 k l (n : Int) (i : Int) code (code.length : Int) (rd_L1 l (i : Int)) (mn (wrap64 (((rd_L1 l (i : Int)).length : Int) / 2)) 9) 0 2 1 1 [1] 1 1 TH) else (none)) else (interlocklaw02_Make.l3 k l (n : Int) (i : Int) code 0 0 2 1 1 [1] 1 1 TH)) := by
    intro code ho hlen
    refine Gv.ite (fun h => Gv.pos (by omega) ?_) (fun h => l3_ok l n i hi TH hT hN code ⟨ho.more (Nat.le_refl _) (Nat.zero_le _), by omega⟩)
    obtain ⟨r1, r2⟩ := rd_rows l hl i (by omega)
    obtain ⟨many, e1, e2, e3⟩ := mn_half (rd_L1 l (i : Int)) r1
    rw [e1]
    exact l4_ok l n i hi TH hT hN _ r2 code.length many e2 e3 r1 hlen many 0 code (by omega) (ho.more (Nat.le_refl _) (Nat.zero_le _)) (by omega)
  have tail2 : ∀ code : List S30, AllG n 0 code → code.length ≤ 2 → Gv (MakeOK n) (fun k => if (i : Int) < (l.length : Int) then (if 0 ≤ (i : Int) then (interlocklaw02_Make.l2 k l (n : Int) (i : Int) code (code.length : Int) (rd_L1 l (i : Int)) (mn (wrap64 (((rd_L1 l (i : Int)).length : Int) / 2)) 9) 0 2 1 1 [1] 1 1 TH) else (none)) else (interlocklaw02_Make.l3 k l (n : Int) (i : Int) code 0 0 2 1 1 [1] 1 1 TH)) := by
    intro code ho hlen
    refine Gv.ite (fun h => Gv.pos (by omega) ?_) (fun h => l3_ok l n i hi TH hT hN code ⟨ho.more (Nat.le_refl _) (Nat.zero_le _), by omega⟩)
    obtain ⟨r1, r2⟩ := rd_rows l hl i (by omega)
    obtain ⟨many, e1, e2, e3⟩ := mn_half (rd_L1 l (i : Int)) r1
    rw [e1]
    exact l2_ok l n i hi TH hT hN _ r2 code.length many e2 e3 r1 hlen many 0 code (by omega) (ho.more (Nat.le_refl _) (Nat.zero_le _)) (by omega)
  intro q
  induction q with
  | zero =>
    intro m code hmq hm1 ho hlen
    refine Gv.step (fun k => ?_) (tail4 code ho (by omega))
    simp only [interlocklaw02_Make.l1]
    rw [if_neg (by omega)]
  | succ q ih =>
    intro m code hmq hm1 ho hlen
    have E3 : Aside0 (wrap64 ((m : Int) + 1) = ((m + 1 : Nat) : Int)) := ⟨by rw [w64 (by omega) (by omega)]; rfl⟩
    by_cases h0 : (i : Int) = 0
    · refine Gv.step (f := fun k => interlocklaw02_Make.l1 k l (n : Int) (i : Int) (code ++ [(⟨12, (m : Int), 0, 0⟩ : S30)]) ((m + 1 : Nat) : Int) 2 1 1 [1] 1 1 TH) (fun k => ?_) (ih (m + 1) _ (by omega) (by omega) (ho.snoc (good_of rfl (by show okW n 0 6 (m : Int); unfold okW; omega) (okW_zero (Or.inl rfl)) (okW_zero (Or.inl rfl)))) (by rw [List.length_append]; simp; omega))
      simp only [interlocklaw02_Make.l1]
      rw [if_pos (by omega), if_pos h0, if_pos (by omega), E3.out]
    · refine Gv.step (fun k => ?_) (tail2 code ho (by omega))
      simp only [interlocklaw02_Make.l1]
      rw [if_pos (by omega), if_neg h0]
theorem l0_ok (hl : ∀ c ∈ l, c.length ≤ 9223372036854775807 ∧ U8s c) (hll : l.length ≤ 9223372036854775807) (hn : n ≤ 3) (hn1 : 1 ≤ n) : ∀ (q i : Nat) (TH : List (List S30)), i + q = n → TH.length = i → (∀ c ∈ TH, CodeG n c) →
    Gv (MakeOK n) (fun k => interlocklaw02_Make.l0 k l (n : Int) (i : Int) 2 1 1 [1] 1 1 TH) := by
  intro q
  induction q with
  | zero =>
    intro i TH hiq hT hA
    refine Gv.step (f := fun _ => some (2, 1, 1, [1], 1, 1, TH)) (fun k => ?_) (Gv.some_ ⟨TH, rfl, by omega, hA⟩)
    simp only [interlocklaw02_Make.l0]
    rw [if_neg (by omega)]
  | succ q ih =>
    intro i TH hiq hT hA
    have hN : Next l n i TH := fun code hc => ih (i + 1) (TH ++ [code]) (by omega) (by rw [List.length_append, hT]; rfl) (fun c hm => by
      rcases List.mem_append.1 hm with h1 | h1
      · exact hA c h1
      · rw [List.mem_singleton.1 h1]; exact hc)
    refine Gv.step (f := fun k => interlocklaw02_Make.l1 k l (n : Int) (i : Int) ([] : List S30) ((1 : Nat) : Int) 2 1 1 [1] 1 1 TH) (fun k => ?_) (l1_ok l n hl hll i (by omega) hn TH hT hN (n - 1) 1 [] (by omega) (Nat.le_refl _) (fun x hx => by cases hx) (Nat.le_refl _))
    simp only [interlocklaw02_Make.l0]
    rw [if_pos (by omega)]; rfl
end
theorem make_ok (l : List (List Int)) (hl : ∀ c ∈ l, c.length ≤ 9223372036854775807 ∧ U8s c) (hll : l.length ≤ 9223372036854775807) :
    ∃ (n : Nat) (th : List (List S30)), 1 ≤ n ∧ n ≤ 3 ∧ th.length = n ∧ (∀ c ∈ th, CodeG n c) ∧ Ev (fun k => interlocklaw02_Make.f k l) (2, 1, 1, [1], 1, 1, th) := by
  obtain ⟨n, e1, h1, h3⟩ : ∃ n : Nat, mx (mn (l.length : Int) 3) 1 = (n : Int) ∧ 1 ≤ n ∧ n ≤ 3 := by
    have : l.length = 0 ∨ l.length = 1 ∨ l.length = 2 ∨ 3 ≤ l.length := by omega
    rcases this with h | h | h | h
    · exact ⟨1, by rw [h]; rfl, by omega, by omega⟩
    · exact ⟨1, by rw [h]; rfl, by omega, by omega⟩
    · exact ⟨2, by rw [h]; rfl, by omega, by omega⟩
    · refine ⟨3, ?_, by omega, by omega⟩
      have : mn (l.length : Int) 3 = 3 := by unfold mn; split <;> omega
      rw [this]; rfl
  obtain ⟨r, hr1, th, rfl, hr2, hr3⟩ := l0_ok l n hl hll h3 h1 n 0 [] (by omega) rfl (fun c h => by cases h)
  refine ⟨n, th, h1, h3, hr2, hr3, Ev.congr (fun k => ?_) hr1⟩
  unfold interlocklaw02_Make.f
  rw [e1]; rfl
/-- What the statement's bounds say. -/
theorem wf_rows {l : List (List Int)} (h : l.length ≤ 9223372036854775807 ∧ ∀ x ∈ l, (fun xs : List Int => xs.length ≤ 9223372036854775807 ∧ ∀ x ∈ xs, (fun x => (Lit.int .u8 x).wf = true) x) x) : (∀ c ∈ l, c.length ≤ 9223372036854775807 ∧ U8s c) ∧ l.length ≤ 9223372036854775807 :=
  ⟨fun c hc => ⟨(h.2 c hc).1, fun x hx => by
    have := (h.2 c hc).2 x hx
    have h2 : (Lit.int .u8 x).wf = true := this
    have m1 : IntKind.u8.min = 0 := rfl
    have m2 : IntKind.u8.max = 255 := rfl
    simp [Lit.wf, m1, m2] at h2
    exact ⟨by omega, by omega⟩⟩, h.1⟩
/-! ### sound programs -/
theorem code_mem {th : List (List S30)} {i : Nat} (hi : i < th.length) : codeAt th i ∈ th := by
  unfold codeAt; rw [List.getD_eq_getElem?_getD, List.getElem?_eq_getElem hi]; exact List.getElem_mem hi
theorem code_good (t : Nat) (len : Nat) : ∀ c : List S30, AllG t len c → codeRes (lims 2 1 1 1 1 1 t (len : Int)) c = 0
  | [], _ => rfl
  | x :: c, h => by
    show (if insRes _ x = 0 then codeRes _ c else insRes _ x) = 0
    rw [if_pos ((h x List.mem_cons_self).2 t len (Nat.le_refl _) (Nat.le_refl _))]
    exact code_good t len c (fun y hy => h y (List.mem_cons_of_mem _ hy))
theorem code_app (L : List (Int × Int)) : ∀ c d : List S30, codeRes L (c ++ d) = if codeRes L c = 0 then codeRes L d else codeRes L c
  | [], d => by rw [List.nil_append]; rfl
  | x :: c, d => by
    show (if insRes L x = 0 then codeRes L (c ++ d) else insRes L x) = if (if insRes L x = 0 then codeRes L c else insRes L x) = 0 then codeRes L d else (if insRes L x = 0 then codeRes L c else insRes L x)
    by_cases h : insRes L x = 0
    · rw [if_pos h, if_pos h, code_app L c d]
    · rw [if_neg h, if_neg h, if_neg h]
theorem all_good (t : Nat) : ∀ th : List (List S30), (∀ c ∈ th, AllG t c.length c) → allRes (lims 2 1 1 1 1 1 t) th = 0
  | [], _ => rfl
  | c :: th, h => by
    show (if codeRes _ c = 0 then allRes _ th else codeRes _ c) = 0
    rw [if_pos (code_good t c.length c (h c List.mem_cons_self))]
    exact all_good t th (fun d hd => h d (List.mem_cons_of_mem _ hd))
theorem bytes_good {t : Nat} {th : List (List S30)} (h : ∀ c ∈ th, AllG t c.length c) : bytesOK th = true := by
  unfold bytesOK
  rw [List.all_eq_true]
  intro c hc
  rw [List.all_eq_true]
  intro x hx
  have := (h c hc x hx).1
  simpa using this
theorem longs_no {th : List (List S30)} (h : ∀ c ∈ th, c.length ≤ 60) : longs th = false := by
  unfold longs
  rw [Bool.eq_false_iff, Ne, List.any_eq_true]
  rintro ⟨c, hc, h2⟩
  have := h c hc
  simp at h2
  omega
theorem far_th (th : List (List S30)) (h : ∀ c ∈ th, c.length ≤ 60) : far 2 1 1 [1] 1 1 th = outB (th.length : Int) 1 6 := by
  unfold far
  rw [longs_no h]
  simp [outB]
theorem sound_th (th : List (List S30)) (h : ∀ c ∈ th, AllG th.length c.length c) (hl : ∀ c ∈ th, c.length ≤ 60) (h1 : 1 ≤ th.length) : soundRes 2 1 1 [1] 1 1 th = if 6 < th.length then 3 else 0 := by
  unfold soundRes
  rw [far_th th hl]
  unfold outB
  rw [decide_eq_false (show ¬ ((th.length : Int) < 1) by omega), Bool.false_or]
  by_cases h6 : 6 < th.length
  · rw [if_pos h6, if_pos (decide_eq_true (by omega))]
  · rw [if_neg h6, if_neg (by rw [decide_eq_true_eq]; omega), if_neg (by decide)]
    exact all_good th.length th h
theorem sound_f {V A L G O : Int} {ch : List Int} {th : List (List S30)} (h : bytesOK th = true) : ir_Sound.f V A L ch G O th = some (soundRes V A L ch G O th) := if_pos h
end Go.Proofs.Ytkkhjfkgfmodnaa.Pure
