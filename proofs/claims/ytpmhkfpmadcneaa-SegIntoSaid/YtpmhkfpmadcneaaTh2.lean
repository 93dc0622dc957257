import Derived.Test.YtpmhkfpmadcneaaTh1
namespace Go.Proofs.Ytpmhkfpmadcneaa.Th
open Go Go.RowKit Go.Proofs.Ytpmhkfpmadcneaa.P Go.Proofs.YtpmhkfpmadcneaaW.PrintWords Go.Proofs.YtpmhkfpmadcneaaW.PrintLast Go.Proofs.YtpmhkfpmadcneaaW.PrintMore

def OpsOK (c : List S25) : Prop := ∀ x ∈ c, 0 ≤ x.f0 ∧ x.f0 ≤ 255
theorem OpsOK.at_ {c : List S25} (h : OpsOK c) {i : Nat} (hi : i < c.length) : 0 ≤ (rd_T25 c i).f0 ∧ (rd_T25 c i).f0 ≤ 255 := by
  refine h _ ?_
  show c.getD (i : Int).toNat z25 ∈ c
  rw [Int.toNat_natCast, List.getD_eq_getElem?_getD, List.getElem?_eq_getElem hi]
  exact List.getElem_mem hi
theorem plain_tab : ∀ n, n < 28 → (shpTab.getD n Shp.zero).p = decide (n ≤ 8) := by decide
theorem plain_at {x : Int} (h0 : 0 ≤ x) : (shpAt x).p = decide (x ≤ 8) := by
  obtain ⟨n, rfl⟩ := Int.eq_ofNat_of_zero_le h0
  show (shpTab.getD (n : Int).toNat Shp.zero).p = _
  rw [Int.toNat_natCast]
  by_cases h : n < 28
  · rw [plain_tab n h]
    by_cases h2 : n ≤ 8
    · rw [decide_eq_true h2, decide_eq_true (by omega)]
    · rw [decide_eq_false h2, decide_eq_false (by omega)]
  · rw [List.getD_eq_getElem?_getD, List.getElem?_eq_none (by show 28 ≤ n; omega), decide_eq_false (by omega)]; rfl

theorem markL_length (l : List Bool) (a : Int) : (markL l a).length = l.length := by
  unfold markL; split
  · split
    · simp
    · rfl
  · rfl
theorem markL_at (l : List Bool) (a : Int) (j : Nat) (hj : j < l.length) : (markL l a).getD j false = true ↔ a = j ∨ l.getD j false = true := by
  unfold markL
  by_cases h0 : 0 ≤ a
  · rw [if_pos h0]
    by_cases h1 : a < (l.length : Int)
    · rw [if_pos h1, getD_set]
      by_cases e : a.toNat = j
      · rw [if_pos ⟨e, hj⟩]
        exact ⟨fun _ => .inl (by omega), fun _ => rfl⟩
      · rw [if_neg (fun h => e h.1)]
        exact ⟨.inr, fun h => h.elim (fun h => absurd (by omega) e) id⟩
    · rw [if_neg h1]
      exact ⟨.inr, fun h => h.elim (fun h => by omega) id⟩
  · rw [if_neg h0]
    exact ⟨.inr, fun h => h.elim (fun h => by omega) id⟩
def Leads (x : S25) (i : Nat) : Prop := (x.f0 = 10 ∧ x.f1 = i) ∨ (x.f0 = 11 ∧ x.f2 = i)
theorem step_length (l : List Bool) (a : Int) (x : S25) : (headsStep l a x).length = l.length := by
  unfold headsStep
  simp only []
  repeat' split
  all_goals simp only [markL_length]
theorem step_at (l : List Bool) (n : Nat) (x : S25) (j : Nat) (hj : j < l.length) (h0 : 0 ≤ x.f0) :
    (headsStep l n x).getD j false = true ↔ l.getD j false = true ∨ Leads x j ∨ (¬ x.f0 ≤ 8 ∧ (j = n ∨ j = n + 1)) := by
  have key : ∀ l1 : List Bool, l1.length = l.length → (l1.getD j false = true ↔ l.getD j false = true ∨ Leads x j) →
      ((if (shpAt x.f0).p = true then l1 else markL (markL l1 n) (n + 1)).getD j false = true ↔ l.getD j false = true ∨ Leads x j ∨ (¬ x.f0 ≤ 8 ∧ (j = n ∨ j = n + 1))) := by
    intro l1 e1 e2
    rw [plain_at h0]
    by_cases hp : x.f0 ≤ 8
    · rw [decide_eq_true hp, if_pos rfl, e2]
      exact ⟨fun h => h.elim .inl (fun h => .inr (.inl h)), fun h => h.elim .inl (fun h => h.elim .inr (fun h => absurd hp h.1))⟩
    · rw [decide_eq_false hp, if_neg (by decide), markL_at _ _ _ (by rw [markL_length, e1]; exact hj), markL_at _ _ _ (by rw [e1]; exact hj), e2]
      constructor
      · rintro (h | h | h | h)
        · exact .inr (.inr ⟨hp, .inr (by omega)⟩)
        · exact .inr (.inr ⟨hp, .inl (by omega)⟩)
        · exact .inl h
        · exact .inr (.inl h)
      · rintro (h | h | ⟨_, h | h⟩)
        · exact .inr (.inr (.inl h))
        · exact .inr (.inr (.inr h))
        · exact .inr (.inl (by omega))
        · exact .inl (by omega)
  unfold headsStep
  simp only []
  by_cases e10 : x.f0 = 10
  · refine key _ (by rw [if_pos e10, markL_length]) ?_
    rw [if_pos e10, markL_at _ _ _ hj]
    exact ⟨fun h => h.elim (fun h => .inr (.inl ⟨e10, h⟩)) .inl, fun h => h.elim .inr (fun h => h.elim (fun h => .inl h.2) (fun h => by omega))⟩
  · by_cases e11 : x.f0 = 11
    · refine key _ (by rw [if_neg e10, if_pos e11, markL_length]) ?_
      rw [if_neg e10, if_pos e11, markL_at _ _ _ hj]
      exact ⟨fun h => h.elim (fun h => .inr (.inr ⟨e11, h⟩)) .inl, fun h => h.elim .inr (fun h => h.elim (fun h => by omega) (fun h => .inl h.2))⟩
    · refine key _ (by rw [if_neg e10, if_neg e11]) ?_
      rw [if_neg e10, if_neg e11]
      exact ⟨.inl, fun h => h.elim id (fun h => h.elim (fun h => absurd h.1 e10) (fun h => absurd h.1 e11))⟩
theorem headsK_length (c : List S25) : ∀ k, (headsK c k).length = c.length
  | 0 => by show (markL _ _).length = _; rw [markL_length]; simp
  | k + 1 => by show (headsStep _ _ _).length = _; rw [step_length, headsK_length c k]
theorem headsK_at (c : List S25) (hc : OpsOK c) (i : Nat) (hi : i < c.length) : ∀ k, k ≤ c.length → ((headsK c k).getD i false = true ↔ i = 0 ∨ ∃ j, j < k ∧ (Leads (rd_T25 c j) i ∨ (¬ (rd_T25 c j).f0 ≤ 8 ∧ (i = j ∨ i = j + 1))))
  | 0, _ => by
    show (markL (List.replicate c.length false) 0).getD i false = true ↔ _
    rw [markL_at _ _ _ (by simpa using hi)]
    have : (List.replicate c.length false).getD i false = false := by
      rw [List.getD_eq_getElem?_getD, List.getElem?_replicate]; split <;> rfl
    rw [this]
    exact ⟨fun h => h.elim (fun h => .inl (by omega)) (fun h => by cases h), fun h => h.elim (fun h => .inl (by omega)) (fun ⟨j, h, _⟩ => by omega)⟩
  | k + 1, hk => by
    show (headsStep (headsK c k) k (rd_T25 c k)).getD i false = true ↔ _
    rw [step_at _ _ _ _ (by rw [headsK_length]; exact hi) (hc.at_ (by omega)).1, headsK_at c hc i hi k (by omega)]
    constructor
    · rintro ((h | ⟨j, h1, h2⟩) | h | h)
      · exact .inl h
      · exact .inr ⟨j, by omega, h2⟩
      · exact .inr ⟨k, by omega, .inl h⟩
      · exact .inr ⟨k, by omega, .inr h⟩
    · rintro (h | ⟨j, h1, h2⟩)
      · exact .inl (.inl h)
      · by_cases e : j = k
        · subst e
          exact h2.elim (fun h => .inr (.inl h)) (fun h => .inr (.inr h))
        · exact .inl (.inr ⟨j, by omega, h2⟩)
/-- Does a row begin there? -/
def HP (c : List S25) (i : Nat) : Prop := i = 0 ∨ ¬ (rd_T25 c i).f0 ≤ 8 ∨ ¬ (rd_T25 c (i - 1 : Nat)).f0 ≤ 8 ∨ ∃ j, j < c.length ∧ Leads (rd_T25 c j) i
def hb (c : List S25) (i : Nat) : Bool := (headsK c c.length).getD i false
theorem hb_iff (c : List S25) (hc : OpsOK c) (i : Nat) (hi : i < c.length) : hb c i = true ↔ HP c i := by
  unfold hb HP
  rw [headsK_at c hc i hi _ (Nat.le_refl _)]
  constructor
  · rintro (h | ⟨j, h1, h2 | ⟨h2, h3 | h3⟩⟩)
    · exact .inl h
    · exact .inr (.inr (.inr ⟨j, h1, h2⟩))
    · subst h3; exact .inr (.inl h2)
    · subst h3; exact .inr (.inr (.inl h2))
  · rintro (h | h | h | ⟨j, h1, h2⟩)
    · exact .inl h
    · exact .inr ⟨i, hi, .inr ⟨h, .inl rfl⟩⟩
    · by_cases e : i = 0
      · exact .inl e
      · exact .inr ⟨i - 1, by omega, .inr ⟨h, .inr (by omega)⟩⟩
    · exact .inr ⟨j, h1, .inl h2⟩
theorem heads_f (c : List S25) (hc : OpsOK c) (hl : c.length ≤ 140737488355328) : seg_Heads.f c = some (headsK c c.length) := by
  unfold seg_Heads.f
  rw [if_pos hl, if_pos]
  exact List.all_eq_true.2 (fun x hx => by have := hc x hx; simp [this])
/-- Where a row begins, and ends. -/
def HeadS (c : List S25) (i h : Nat) : Prop := h ≤ i ∧ hb c h = true ∧ ∀ j, h < j → j ≤ i → hb c j = false
def TailS (c : List S25) (i t : Nat) : Prop := i < t ∧ t ≤ c.length ∧ (t < c.length → hb c t = true) ∧ ∀ j, i < j → j < t → hb c j = false
theorem HeadS.one {c : List S25} {i h h' : Nat} (a : HeadS c i h) (b : HeadS c i h') : h = h' := by
  obtain ⟨a1, a2, a3⟩ := a
  obtain ⟨b1, b2, b3⟩ := b
  rcases Nat.lt_trichotomy h h' with e | e | e
  · have := a3 h' e b1; rw [this] at b2; cases b2
  · exact e
  · have := b3 h e a1; rw [this] at a2; cases a2
theorem TailS.one {c : List S25} {i t t' : Nat} (a : TailS c i t) (b : TailS c i t') : t = t' := by
  obtain ⟨a1, a2, a3, a4⟩ := a
  obtain ⟨b1, b2, b3, b4⟩ := b
  rcases Nat.lt_trichotomy t t' with e | e | e
  · have := b4 t a1 e; rw [this] at a3; have := a3 (by omega); cases this
  · exact e
  · have := a4 t' b1 e; rw [this] at b3; have := b3 (by omega); cases this
theorem there_in (c : List S25) (i : Nat) (hi : i < c.length) : seg_there.f c (i : Int) = some true := by
  unfold seg_there.f; rw [if_pos (by omega), decide_eq_true (by omega)]
theorem there_out (c : List S25) (i : Int) (hi : i < 0 ∨ (c.length : Int) ≤ i) : seg_there.f c i = some false := by
  unfold seg_there.f
  by_cases h : i ≥ 0
  · rw [if_pos h, decide_eq_false (by omega)]
  · rw [if_neg h]
theorem head_out (c : List S25) (i : Int) (hi : i < 0 ∨ (c.length : Int) ≤ i) : Ev (fun k => seg_Head.f k c i) i := by
  refine Ev.congr (f := fun _ => some i) (fun k => ?_) (Ev.now _)
  unfold seg_Head.f; rw [there_out c i hi]; rfl
theorem tail_out (c : List S25) (i : Int) (hi : i < 0 ∨ (c.length : Int) ≤ i) : Ev (fun k => seg_Tail.f k c i) i := by
  refine Ev.congr (f := fun _ => some i) (fun k => ?_) (Ev.now _)
  unfold seg_Tail.f; rw [there_out c i hi]; rfl
theorem take_getD (l : List Bool) (m j : Nat) : (l.take m).getD j false = if j < m then l.getD j false else false := by
  simp only [List.getD_eq_getElem?_getD, List.getElem?_take]
  split <;> rfl
theorem rev_getD (l : List Bool) (j : Nat) (hj : j < l.length) : l.reverse.getD j false = l.getD (l.length - 1 - j) false := by
  simp only [List.getD_eq_getElem?_getD]
  rw [List.getElem?_reverse hj]
theorem head_in (c : List S25) (hc : OpsOK c) (hl : c.length ≤ 140737488355328) (i : Nat) (hi : i < c.length) : ∃ h : Nat, Ev (fun k => seg_Head.f k c (i : Int)) (h : Int) ∧ HeadS c i h := by
  have hlen := headsK_length c c.length
  have e1 : wrap64 ((i : Int) + 1) = ((i + 1 : Nat) : Int) := by rw [w64 (by omega) (by omega)]; rfl
  have hlt : ((headsK c c.length).take (i + 1)).length = i + 1 := by rw [List.length_take]; omega
  have hlr : ((headsK c c.length).take (i + 1)).reverse.length = i + 1 := by rw [List.length_reverse, hlt]
  have hr := rev_ev' ((headsK c c.length).take (i + 1)) (by omega)
  obtain ⟨r, h1, h2⟩ := index_ev' ((headsK c c.length).take (i + 1)).reverse (by omega)
  have at_ : ∀ j, j ≤ i → ((headsK c c.length).take (i + 1)).reverse.getD j false = hb c (i - j) := by
    intro j hj
    rw [rev_getD _ _ (by omega), hlt, take_getD, if_pos (by omega)]
    show (headsK c c.length).getD (i + 1 - 1 - j) false = (headsK c c.length).getD (i - j) false
    rw [show i + 1 - 1 - j = i - j by omega]
  have go : ∀ m : Nat, r = m → m ≤ i → hb c (i - m) = true → (∀ j, j < m → hb c (i - j) = false) → ∃ h : Nat, Ev (fun k => seg_Head.f k c (i : Int)) (h : Int) ∧ HeadS c i h := by
    intro m e hm ht hf
    refine ⟨i - m, ?_, by omega, ht, fun j h3 h4 => ?_⟩
    · have e3 : (((i - m : Nat)) : Int) = wrap64 ((i : Int) - r) := by rw [w64 (by omega) (by omega)]; omega
      rw [e3]
      refine Ev.congr (f := fun k => (slices_Reverse_bool_bool.f k ((headsK c c.length).take (i + 1))).bind fun t => (slices_Index_bool_bool.f k t true).bind fun q => some (wrap64 ((i : Int) - q))) (fun k => ?_) (Ev.bind hr (Ev.bind h1 (Ev.now _)))
      unfold seg_Head.f
      rw [there_in c i hi, heads_f c hc hl]
      rw [Option.bind_some, if_pos rfl, Option.bind_some, e1, if_pos (by omega), if_pos (by omega), Int.toNat_natCast]
    · have := hf (i - j) (by omega)
      rwa [show i - (i - j) = j by omega] at this
  rcases h2 with ⟨e, h3⟩ | ⟨m, e, h3, h4, h5⟩
  · have := h3 i (by omega)
    rw [at_ i (Nat.le_refl _), Nat.sub_self] at this
    have h0 : hb c 0 = true := (hb_iff c hc 0 (by omega)).2 (.inl rfl)
    rw [this] at h0; cases h0
  · rw [hlr] at h3
    rw [at_ m (by omega)] at h4
    exact go m e (by omega) h4 (fun j hj => by rw [← at_ j (by omega)]; exact h5 j hj)
theorem drop_getD (l : List Bool) (m j : Nat) : (l.drop m).getD j false = l.getD (m + j) false := by
  simp only [List.getD_eq_getElem?_getD, List.getElem?_drop]
theorem tail_in (c : List S25) (hc : OpsOK c) (hl : c.length ≤ 140737488355328) (i : Nat) (hi : i < c.length) : ∃ t : Nat, Ev (fun k => seg_Tail.f k c (i : Int)) (t : Int) ∧ TailS c i t := by
  have hlen := headsK_length c c.length
  have e1 : wrap64 ((i : Int) + 1) = ((i + 1 : Nat) : Int) := by rw [w64 (by omega) (by omega)]; rfl
  have hld : ((headsK c c.length).drop (i + 1)).length = c.length - (i + 1) := by rw [List.length_drop, hlen]
  obtain ⟨r, h1, h2⟩ := index_ev' ((headsK c c.length).drop (i + 1)) (by omega)
  have base : ∀ q : Int, (if r ≥ 0 then some (wrap64 (((i + 1 : Nat) : Int) + r)) else some (c.length : Int)) = some q → Ev (fun k => seg_Tail.f k c (i : Int)) q := by
    intro q hq
    refine Ev.congr (f := fun k => (slices_Index_bool_bool.f k ((headsK c c.length).drop (i + 1)) true).bind fun t => if t ≥ 0 then some (wrap64 (((i + 1 : Nat) : Int) + t)) else some (c.length : Int)) (fun k => ?_) (Ev.bind h1 (by rw [hq]; exact Ev.now _))
    unfold seg_Tail.f
    rw [there_in c i hi, heads_f c hc hl]
    rw [Option.bind_some, if_pos rfl, Option.bind_some, e1, if_pos (by omega), if_pos (by omega), Int.toNat_natCast]
  rcases h2 with ⟨e, h3⟩ | ⟨m, e, h3, h4, h5⟩
  · refine ⟨c.length, base _ (by rw [if_neg (by omega)]), hi, Nat.le_refl _, fun h => by omega, fun j h6 h7 => ?_⟩
    have := h3 (j - (i + 1)) (by omega)
    rw [drop_getD, show i + 1 + (j - (i + 1)) = j by omega] at this
    exact this
  · rw [hld] at h3
    refine ⟨i + 1 + m, base _ (by rw [if_pos (by omega), w64 (by omega) (by omega)]; congr 1; omega), by omega, by omega, fun _ => ?_, fun j h6 h7 => ?_⟩
    · rw [drop_getD] at h4; exact h4
    · have := h5 (j - (i + 1)) (by omega)
      rw [drop_getD, show i + 1 + (j - (i + 1)) = j by omega] at this
      exact this
end Go.Proofs.Ytpmhkfpmadcneaa.Th
