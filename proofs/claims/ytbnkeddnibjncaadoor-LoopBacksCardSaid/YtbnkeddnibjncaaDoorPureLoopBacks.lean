import Derived.Test.YtbnkeddnibjncaaDoorRD
import Derived.Test.YtbnkeddnibjncaaDoorSLoopBacks
namespace Go.Proofs.YtbnkeddnibjncaaDoor.Pure
set_option linter.unusedVariables false
set_option linter.unusedSectionVars false
open Go Go.RowKit Go.Proofs.YtbnkeddnibjncaaDoor.P Go.Proofs.YtbnkeddnibjncaaDoor.Opn Go.Proofs.YtbnkeddnibjncaaDoor.Th Go.Proofs.YtbnkeddnibjncaaDoorW.PrintWords Go.Proofs.YtbnkeddnibjncaaDoorW.PrintLast Go.Proofs.YtbnkeddnibjncaaDoorW.PrintMore
section
variable {ss : List (List Int)} (hg : Gok ss) (hrow : ∀ i, (ss.getD i []).length ≤ 60) {L : List S35} (hL : ∀ M ∈ L, IsLoop ss M) (hll : L.length ≤ 64)
theorem rdL1 (ss : List (List Int)) (i : Nat) : rd_L1 ss (i : Int) = ss.getD i [] := by unfold rd_L1; rw [Int.toNat_natCast]
include hg hrow hL hll in
/-- Each loop has a node that leads back to its head. -/
theorem backs_l4 (m : Nat) (hm : m < L.length) (A : List Int) (a : Int) (hA : (rd_T35 L (m : Int)).f1 = A) (ha : (rd_T35 L (m : Int)).f0 = a) (hin : ∀ x ∈ A, 0 ≤ x ∧ x < (ss.length : Int)) (hal : A.length ≤ 64)
    (cont : Ev (fun k => interlocklaw12_LoopBacks.l3 k ss L ((m + 1 : Nat) : Int)) true) : ∀ (d j : Nat) (e : Bool), j + d = A.length → (e = true ∨ ∃ t, j ≤ t ∧ t < A.length ∧ a ∈ rd_L1 ss (A.getD t 0)) →
    Ev (fun k => interlocklaw12_LoopBacks.l4 k ss L (m : Int) e (j : Int)) true
  | 0, j, e, hj, he => by
    obtain rfl : e = true := he.elim id (fun ⟨t, t1, t2, _⟩ => by omega)
    exact Ev.step (f := fun k => _) (fun k => by
      simp only [interlocklaw12_LoopBacks.l4]
      rw [if_pos (show 0 ≤ (m : Int) by omega), if_pos (show (m : Int) < (L.length : Int) by omega), hA, if_neg (show ¬ (j : Int) < (A.length : Int) by omega), if_pos trivial, up m (by omega)]) cont
  | d + 1, j, e, hj, he => by
    have hj0 : j < A.length := by omega
    have eg : A.getD j 0 = A[j] := by rw [List.getD_eq_getElem?_getD, List.getElem?_eq_getElem hj0]; rfl
    obtain ⟨x0, x1⟩ := hin (A.getD j 0) (by rw [eg]; exact List.getElem_mem hj0)
    cases e with
    | true =>
      have ih := backs_l4 m hm A a hA ha hin hal cont d (j + 1) true (by omega) (.inl rfl)
      exact Ev.step (f := fun k => _) (fun k => by
        simp only [interlocklaw12_LoopBacks.l4]
        rw [if_pos (show 0 ≤ (m : Int) by omega), if_pos (show (m : Int) < (L.length : Int) by omega), hA, if_pos (show (j : Int) < (A.length : Int) by omega), if_pos (show 0 ≤ (j : Int) by omega), if_pos trivial, up j (by omega)]) ih
    | false =>
      have hx : rd_L1 ss (A.getD j 0) = ss.getD (A.getD j 0).toNat [] := rfl
      have hb := has_ev (rd_L1 ss (A.getD j 0)) a (by rw [hx]; have := hrow (A.getD j 0).toNat; omega)
      have ih := backs_l4 m hm A a hA ha hin hal cont d (j + 1) (decide (a ∈ rd_L1 ss (A.getD j 0))) (by omega) (by
        by_cases c : a ∈ rd_L1 ss (A.getD j 0)
        · exact .inl (decide_eq_true c)
        · rcases he with he | ⟨t, t1, t2, t3⟩
          · cases he
          · refine .inr ⟨t, ?_, t2, t3⟩
            by_cases et : t = j
            · subst et; exact absurd t3 c
            · omega)
      refine Ev.step (f := fun k => _) (fun k => by
        simp only [interlocklaw12_LoopBacks.l4]
        rw [if_pos (show 0 ≤ (m : Int) by omega), if_pos (show (m : Int) < (L.length : Int) by omega), hA, if_pos (show (j : Int) < (A.length : Int) by omega), if_pos (show 0 ≤ (j : Int) by omega), if_neg (by decide), rd_nat, if_pos (show A.getD j 0 ≥ 0 from x0), if_pos x1, if_pos x0, ha, up j (by omega)]) (Ev.bind hb ih)
include hg hrow hL hll in
theorem backs_l3 : ∀ (d m : Nat), m + d = L.length → Ev (fun k => interlocklaw12_LoopBacks.l3 k ss L (m : Int)) true
  | 0, m, hm => Ev.step (f := fun k => _) (fun k => by
      simp only [interlocklaw12_LoopBacks.l3]
      rw [if_neg (show ¬ (m : Int) < (L.length : Int) by omega)]) (Ev.bind known_ev (Ev.now _))
  | d + 1, m, hm => by
    have hlt : m < L.length := by omega
    have hloop := hL _ (rdT L m hlt)
    have hlen := hloop.len
    have hn := hg.n64
    obtain ⟨a, ⟨t, hb⟩, e⟩ := hloop
    have ef1 : (rd_T35 L (m : Int)).f1 = bodyL ss a := by rw [e]
    have ef0 : (rd_T35 L (m : Int)).f0 = (a : Int) := by rw [e]
    have hr := hb.2.rch
    refine Ev.step (f := fun k => _) (fun k => by
      simp only [interlocklaw12_LoopBacks.l3]
      rw [if_pos (show (m : Int) < (L.length : Int) by omega)]; rfl) (backs_l4 hg hrow hL hll m hlt (bodyL ss a) (a : Int) ef1 ef0 (fun x hx => ?_) (by rw [ef1] at hlen; omega) (backs_l3 d (m + 1) (by omega)) (bodyL ss a).length 0 false (by omega) (.inr ?_))
    · obtain ⟨y, rfl, hy⟩ := (bodyL_mem ss a hr x).1 hx
      have := (hy.dom hr).1.lt
      omega
    · obtain ⟨q, hq, hqe⟩ := List.mem_iff_getElem.1 ((bodyL_mem ss a hr (t : Int)).2 ⟨t, rfl, .src hb⟩)
      refine ⟨q, Nat.zero_le _, hq, ?_⟩
      rw [List.getD_eq_getElem?_getD, List.getElem?_eq_getElem hq]
      show (a : Int) ∈ rd_L1 ss ((bodyL ss a)[q])
      rw [hqe, rdL1]
      exact hb.1.2.2
include hL hll in
/-- What leads back is of the loop. -/
theorem backs_l2 (hg : Gok ss) (o : List Int) (rc : List Bool) (t j h : Nat) (hb : Back ss h t) (hin : (⟨(h : Int), bodyL ss h⟩ : S35) ∈ L)
    (cont : Ev (fun k => interlocklaw12_LoopBacks.l1 k ss L o rc (t : Int) (wrap64 ((j : Int) + 1))) true) : ∀ (d m : Nat) (e : Bool), m + d = L.length → (e = true ∨ ∃ q, m ≤ q ∧ q < L.length ∧ rd_T35 L (q : Int) = (⟨(h : Int), bodyL ss h⟩ : S35)) →
    Ev (fun k => interlocklaw12_LoopBacks.l2 k ss L o rc (t : Int) (j : Int) (h : Int) e (m : Int)) true
  | 0, m, e, hm, he => by
    obtain rfl : e = true := he.elim id (fun ⟨t, t1, t2, _⟩ => by omega)
    exact Ev.step (f := fun k => _) (fun k => by
      simp only [interlocklaw12_LoopBacks.l2]
      rw [if_neg (show ¬ (m : Int) < (L.length : Int) by omega), if_pos trivial]) cont
  | d + 1, m, e, hm, he => by
    have hlt : m < L.length := by omega
    cases e with
    | true =>
      have ih := backs_l2 hg o rc t j h hb hin cont d (m + 1) true (by omega) (.inl rfl)
      exact Ev.step (f := fun k => _) (fun k => by
        simp only [interlocklaw12_LoopBacks.l2]
        rw [if_pos (show (m : Int) < (L.length : Int) by omega), if_pos trivial, up m (by omega)]) ih
    | false =>
      by_cases hf : (rd_T35 L (m : Int)).f0 = (h : Int)
      · have hloop := hL _ (rdT L m hlt)
        have hlen := hloop.len
        have hn := hg.n64
        obtain ⟨a, ha, e⟩ := hloop
        have eah : a = h := by rw [e] at hf; have : (a : Int) = (h : Int) := hf; omega
        subst eah
        have hmem : (t : Int) ∈ (rd_T35 L (m : Int)).f1 := by
          rw [e]
          exact (bodyL_mem ss a ha.rch _).2 ⟨t, rfl, .src hb⟩
        have ih := backs_l2 hg o rc t j a hb hin cont d (m + 1) true (by omega) (.inl rfl)
        have hb2 := has_ev (rd_T35 L (m : Int)).f1 (t : Int) (by omega)
        rw [decide_eq_true hmem] at hb2
        refine Ev.step (f := fun k => _) (fun k => by
          simp only [interlocklaw12_LoopBacks.l2]
          rw [if_pos (show (m : Int) < (L.length : Int) by omega), if_neg (by decide), if_pos (show 0 ≤ (m : Int) by omega), if_pos hf, up m (by omega)]) (Ev.bind hb2 ih)
      · have ih := backs_l2 hg o rc t j h hb hin cont d (m + 1) false (by omega) (by
          rcases he with he | ⟨q, q1, q2, q3⟩
          · cases he
          · refine .inr ⟨q, ?_, q2, q3⟩
            by_cases eq : q = m
            · subst eq; rw [q3] at hf; exact absurd rfl hf
            · omega)
        exact Ev.step (f := fun k => _) (fun k => by
          simp only [interlocklaw12_LoopBacks.l2]
          rw [if_pos (show (m : Int) < (L.length : Int) by omega), if_neg (by decide), if_pos (show 0 ≤ (m : Int) by omega), if_neg hf, up m (by omega)]) ih
variable {rc : List Bool} (hrl : rc.length = ss.length) (hrc : ∀ i, i < ss.length → (rc.getD i false = true ↔ Rch ss i)) {o : List Nat} (hol : o.length = ss.length) (ho : ∀ j, fn o j < U) (hd : ∀ i, i < ss.length → ∀ d, d < 64 → ((fn o i).testBit d = true ↔ Dom ss d i))
  (hall : ∀ h, h < ss.length → Head ss h → (⟨(h : Int), bodyL ss h⟩ : S35) ∈ L)
include hg hrow hL hll hrl hrc hol ho hd hall in
theorem backs_l1 (t : Nat) (ht : t < ss.length) (cont : Ev (fun k => interlocklaw12_LoopBacks.l0 k ss L (IL o) rc ((t + 1 : Nat) : Int)) true) : ∀ (d j : Nat), j + d = (ss.getD t []).length →
    Ev (fun k => interlocklaw12_LoopBacks.l1 k ss L (IL o) rc (t : Int) (j : Int)) true
  | 0, j, hj => by
    have hn := hg.n64
    exact Ev.step (f := fun k => _) (fun k => by
      simp only [interlocklaw12_LoopBacks.l1]
      rw [rdL1, if_pos (show 0 ≤ (t : Int) by omega), if_pos (show (t : Int) < (ss.length : Int) by omega), if_neg (show ¬ (j : Int) < ((ss.getD t []).length : Int) by omega), up t (by omega)]) cont
  | d + 1, j, hj => by
    have hn := hg.n64
    have hr := hrow t
    have hjl : j < (ss.getD t []).length := by omega
    have ih := backs_l1 t ht cont d (j + 1) (by omega)
    have hskip : ∀ x : Int, Ev (fun k => interlocklaw12_LoopBacks.j2 k ss L (IL o) rc (t : Int) (j : Int) x true) true := fun x =>
      Ev.step (f := fun k => _) (fun k => by
        simp only [interlocklaw12_LoopBacks.j2]
        rw [if_pos trivial, up j (by omega)]) ih
    have hmemx : (ss.getD t []).getD j 0 ∈ ss.getD t [] := by
      rw [List.getD_eq_getElem?_getD (l := ss.getD t []), List.getElem?_eq_getElem hjl]; exact List.getElem_mem hjl
    have hol' : (IL o).length = ss.length := by rw [IL_len, hol]
    refine Ev.step (f := fun k => _) (fun k => by
      simp only [interlocklaw12_LoopBacks.l1]
      rw [rdL1, if_pos (show 0 ≤ (t : Int) by omega), if_pos (show (t : Int) < (ss.length : Int) by omega), if_pos (show (j : Int) < ((ss.getD t []).length : Int) by omega), if_pos (show 0 ≤ (j : Int) by omega), if_pos (show (t : Int) < (rc.length : Int) by omega), rdB, rd_nat]) ?_
    by_cases hr1 : rc.getD t false = true
    · refine ev_pos hr1 ?_
      generalize (ss.getD t []).getD j 0 = x at hmemx ⊢
      by_cases x0 : x < 0
      · exact ev_pos x0 (hskip x)
      refine ev_neg x0 ?_
      by_cases x1 : x ≥ (ss.length : Int)
      · exact ev_pos x1 (hskip x)
      refine ev_neg x1 (ev_pos (by omega) ?_)
      obtain ⟨h, rfl⟩ : ∃ h : Nat, x = (h : Int) := ⟨x.toNat, by omega⟩
      have h64 : h < 64 := by omega
      have hhas := rhas_ev (fn o t) (ho t) (h : Int)
      rw [decide_eq_true (by omega : 0 ≤ (h : Int) ∧ (h : Int) < 64), Bool.true_and, Int.toNat_natCast] at hhas
      rw [IL_rd]
      refine Ev.bind hhas ?_
      cases hb : (fn o t).testBit h with
      | false => exact hskip _
      | true =>
        have hdm := (hd t ht h h64).1 hb
        have hback : Back ss h t := ⟨⟨ht, by omega, hmemx⟩, hdm⟩
        have hin := hall h (by omega) ⟨t, hback⟩
        obtain ⟨q, q1, q2⟩ := rdT_get L _ hin
        rw [← up j (by omega)] at ih
        exact Ev.step (f := fun k => _) (fun k => by
          simp only [interlocklaw12_LoopBacks.j2]
          rw [if_neg (by decide)]; rfl) (backs_l2 hL hll hg (IL o) rc t j h hback hin ih L.length 0 false (Nat.zero_add _) (.inr ⟨q, Nat.zero_le _, q1, q2⟩))
    · exact ev_neg hr1 (hskip _)
include hg hrow hL hll hrl hrc hol ho hd hall in
theorem backs_l0 : ∀ (d t : Nat), t + d = ss.length → Ev (fun k => interlocklaw12_LoopBacks.l0 k ss L (IL o) rc (t : Int)) true
  | 0, t, ht => Ev.step (f := fun k => _) (fun k => by
      simp only [interlocklaw12_LoopBacks.l0]
      rw [if_neg (show ¬ (t : Int) < (ss.length : Int) by omega)]; rfl) (backs_l3 hg hrow hL hll L.length 0 (Nat.zero_add _))
  | d + 1, t, ht => Ev.step (f := fun k => _) (fun k => by
      simp only [interlocklaw12_LoopBacks.l0]
      rw [if_pos (show (t : Int) < (ss.length : Int) by omega)]; rfl) (backs_l1 hg hrow hL hll hrl hrc hol ho hd hall t (by omega) (backs_l0 d (t + 1) (by omega)) (ss.getD t []).length 0 (Nat.zero_add _))
end
theorem LoopBacks : Stmt.LoopBacks := by
  intro a0 l1 h0 h1
  obtain ⟨b0, b1⟩ := bounds_u8 h0
  have hby : ∀ x ∈ l1, 0 ≤ x ∧ x ≤ 255 := fun x hx => by obtain ⟨q0, q1⟩ := bounds_u8 (h1.2 x hx); exact ⟨q0, by omega⟩
  refine Ev.rounds (r := true) ?_
  unfold interlocklaw12_LoopBacks.f
  obtain ⟨g, g1, g2, g3, g4⟩ := graph_ev a0 l1 ⟨b0, by omega⟩ hby
  have hg := graph_ok g3 g4
  have hlen := loops_len g g.length 0
  obtain ⟨o, o1, o2, o3, o4⟩ := rdoms_ev hg
  obtain ⟨rc, r1, r2, r3⟩ := rreach_ev hg
  exact Ev.bind g1 (Ev.bind (of_ev hg) (Ev.bind o1 (Ev.bind r1 (backs_l0 hg g4 (L := OfN g) (fun M hM => loops_mem g g.length 0 M hM) (Nat.le_trans hlen (Nat.le_trans g3 (by decide))) r2 r3 o2 o3 o4 (fun h hh k => loops_has g g.length 0 h (Nat.zero_le _) (by omega) k) g.length 0 (Nat.zero_add _)))))
end Go.Proofs.YtbnkeddnibjncaaDoor.Pure
