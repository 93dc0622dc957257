import Derived.Test.YtfiemikganhgeaaFS
import Derived.Test.YtfiemikganhgeaaSFlowNone
namespace Go.Proofs.Ytfiemikganhgeaa.Pure
set_option linter.unusedVariables false
open Go Go.RowKit Go.Proofs.Ytfiemikganhgeaa.P Go.Proofs.Ytfiemikganhgeaa.Opn Go.Proofs.Ytfiemikganhgeaa.Th Go.Proofs.YtfiemikganhgeaaW.PrintWords Go.Proofs.YtfiemikganhgeaaW.PrintLast Go.Proofs.YtfiemikganhgeaaW.PrintMore
/-- Each value of a row is nothing but what is in A. -/
def Sub (n A : Nat) (r : List Int) : Prop := r.length = n ∧ ∀ i, i < n → ∃ u : Nat, rd r (i : Int) = (u : Int) ∧ u < U ∧ Le false u A
theorem sub_of {n A : Nat} {a : List Nat} (hl : a.length = n) (h : ∀ i, i < n → fn a i < U ∧ Le false (fn a i) A) : Sub n A (IntL a) := ⟨by rw [IntL_len]; exact hl, fun i hi => ⟨fn a i, IntL_rd a i, h i hi⟩⟩
theorem none_l1 (ss : List (List Int)) (hn : ss.length ≤ 64) (a b x y : List Int) (A : Nat) (hA : A < U) (ha : Sub ss.length 0 a) (hb : Sub ss.length 0 b) (hx : Sub ss.length A x) (hy : Sub ss.length A y) : ∀ (d i : Nat), i + d = ss.length →
    Ev (fun k => interlocklaw13_FlowNone.l1 k ss a b x y (A : Int) (i : Int)) true
  | 0, i, hi => Ev.step (fun k => by simp only [interlocklaw13_FlowNone.l1]; rw [if_neg (by omega)]) (Ev.now _)
  | d + 1, i, hi => by
    have ih := none_l1 ss hn a b x y A hA ha hb hx hy d (i + 1) (by omega)
    rw [← up i (by omega)] at ih
    have hlt : i < ss.length := by omega
    obtain ⟨u1, e1, l1, s1⟩ := ha.2 i hlt
    obtain ⟨u2, e2, l2, s2⟩ := hb.2 i hlt
    obtain ⟨u3, e3, l3, s3⟩ := hx.2 i hlt
    obtain ⟨u4, e4, l4, s4⟩ := hy.2 i hlt
    have z1 := sub_zero l1 s1
    have z2 := sub_zero l2 s2
    have z3 := sub_minus l3 hA s3
    have z4 := sub_minus l4 hA s4
    have q1 := ha.1
    have q2 := hb.1
    have q3 := hx.1
    have q4 := hy.1
    refine Ev.step (fun k => ?_) ih
    simp only [interlocklaw13_FlowNone.l1]
    rw [if_pos (show (i : Int) < (ss.length : Int) by omega), if_pos (show 0 ≤ (i : Int) by omega), if_pos (show (i : Int) < (a.length : Int) by omega), e1, z1, if_pos (show ((0 : Nat) : Int) = 0 from rfl), if_pos (show (i : Int) < (b.length : Int) by omega), e2, z2, if_pos (show ((0 : Nat) : Int) = 0 from rfl), if_pos (show (i : Int) < (x.length : Int) by omega), e3, andNot_nat u3 A l3 hA, z3, if_pos (show ((0 : Nat) : Int) = 0 from rfl), if_pos (show (i : Int) < (y.length : Int) by omega), e4, andNot_nat u4 A l4 hA, z4, if_pos (show ((0 : Nat) : Int) = 0 from rfl)]
theorem none_l0 (gs : List Int) (hg : W64 gs) (hgl : gs.length ≤ 70) (ss : List (List Int)) (a b x y : List Int) {r : Bool} : ∀ (d i s : Nat), i + d = gs.length → s < U → Ev (fun k => interlocklaw13_FlowNone.l1 k ss a b x y ((allN ((gs.drop i).map Int.toNat) s : Nat) : Int) 0) r →
    Ev (fun k => interlocklaw13_FlowNone.l0 k gs ss a b x y (s : Int) (i : Int)) r
  | 0, i, s, hi, hs, h => by
    rw [List.drop_eq_nil_of_le (by omega)] at h
    exact Ev.step (fun k => by simp only [interlocklaw13_FlowNone.l0]; rw [if_neg (by omega)]; rfl) h
  | d + 1, i, s, hi, hs, h => by
    have hlt : i < gs.length := by omega
    have hd : gs.drop i = gs.getD i 0 :: gs.drop (i + 1) := by rw [List.drop_eq_getElem_cons hlt, List.getD_eq_getElem?_getD, List.getElem?_eq_getElem hlt]; rfl
    have hx : 0 ≤ gs.getD i 0 ∧ gs.getD i 0 < 18446744073709551616 := by
      rw [List.getD_eq_getElem?_getD, List.getElem?_eq_getElem hlt]; exact hg _ (List.getElem_mem hlt)
    rw [hd] at h
    have hv : rd gs (i : Int) = (((gs.getD i 0).toNat : Nat) : Int) := by rw [rd_nat]; omega
    have hvl : (gs.getD i 0).toNat < U := by show _ < 18446744073709551616; omega
    have ih := none_l0 gs hg hgl ss a b x y d (i + 1) (s ||| (gs.getD i 0).toNat) (by omega) (Nat.or_lt_two_pow (n := 64) hs hvl) h
    rw [← up i (by omega)] at ih
    refine Ev.step (fun k => ?_) ih
    simp only [interlocklaw13_FlowNone.l0]
    rw [if_pos (show (i : Int) < (gs.length : Int) by omega), if_pos (show 0 ≤ (i : Int) by omega), hv, or_nat s _ hs hvl]
theorem none_known (a0 : Int) (l1 l2 l3 : List Int) (a4 : Int) (a5 : Bool) : Ev (fun k => interlocklaw13_FlowNone.j0 k a0 l1 l2 l3 a4 a5 true) true :=
  Ev.step (fun k => by simp only [interlocklaw13_FlowNone.j0, if_true]) (Ev.bind known_ev (Ev.now _))
theorem FlowNone : Stmt.FlowNone := by
  intro a0 l1 l2 l3 a4 a5 h0 h1 h2 h3 h4
  have W2 := w64_of h2
  have W3 := w64_of h3
  obtain ⟨b0, b1⟩ := bounds_u8 h0
  obtain ⟨d0, d1⟩ := bounds_u64 h4
  have hst : 0 ≤ a4 ∧ a4 < 18446744073709551616 := ⟨d0, by omega⟩
  have hby : ∀ x ∈ l1, 0 ≤ x ∧ x ≤ 255 := fun x hx => by obtain ⟨q0, q1⟩ := bounds_u8 (h1.2 x hx); exact ⟨q0, by omega⟩
  refine Ev.rounds (r := true) ?_
  unfold interlocklaw13_FlowNone.f
  by_cases c1 : (l2.length : Int) > 70
  · exact ev_pos c1 (none_known _ _ _ _ _ _)
  refine ev_neg c1 ?_
  by_cases c2 : (l3.length : Int) > 70
  · exact ev_pos c2 (none_known _ _ _ _ _ _)
  refine ev_neg c2 (Ev.bind known_ev ?_)
  obtain ⟨g, g1, g2, g3, g4⟩ := graph_ev a0 l1 ⟨b0, by omega⟩ hby
  have hW0 : W64 [] := fun x hx => by cases hx
  obtain ⟨a, b, ha, hb, hsol, he⟩ := flow_ev g [] l3 0 false a5 (by omega) (fun i _ => by have := g4 i; omega) hW0 W3 ⟨by omega, by omega⟩
  obtain ⟨x, y, hx, hy, hsol2, he2⟩ := flow_ev g l2 l3 a4 false a5 (by omega) (fun i _ => by have := g4 i; omega) W2 W3 hst
  have ok1 := sysP_ok (ss := g) (ks := l3) (m := false) (back := a5) hW0 (st := 0) ⟨by omega, by omega⟩
  have ok2 := sysP_ok (ss := g) (ks := l3) (m := false) (back := a5) W2 hst
  have s1 := hsol.sub ok1 rfl (A := 0) (by decide) (Le.zero _) (fun i => by
    show Le false (atI [] (i : Int)).toNat 0
    unfold atI
    rw [if_pos (by simp)]
    exact Le.refl _ _)
  have hAl : allN (l2.map Int.toNat) a4.toNat < U := allN_lt _ _ (show a4.toNat < 18446744073709551616 by omega) (fun v hv => by
    obtain ⟨z, hz, rfl⟩ := List.mem_map.1 hv
    have := W2 z hz
    show z.toNat < 18446744073709551616
    omega)
  have s2 := hsol2.sub ok2 rfl (A := allN (l2.map Int.toNat) a4.toNat) hAl (allN_start _ _) (fun i => by
    show Le false (atI l2 (i : Int)).toNat _
    unfold atI
    split
    · exact Le.zero _
    · rename_i hc
      refine allN_mem _ _ _ (List.mem_map.2 ⟨_, ?_, rfl⟩)
      rw [rd_nat, List.getD_eq_getElem?_getD, List.getElem?_eq_getElem (by omega)]
      exact List.getElem_mem (by omega))
  have t1 := hsol.alt ok1
  have t2 := hsol2.alt ok2
  have ua := sub_of ha (fun i hi => ⟨(t1 i hi).1, (s1 i hi).1⟩)
  have ub := sub_of hb (fun i hi => ⟨(t1 i hi).2, (s1 i hi).2⟩)
  have ux := sub_of hx (fun i hi => ⟨(t2 i hi).1, (s2 i hi).1⟩)
  have uy := sub_of hy (fun i hi => ⟨(t2 i hi).2, (s2 i hi).2⟩)
  have p1 : Sub g.length 0 (outcome a5 a b).1 ∧ Sub g.length 0 (outcome a5 a b).2 := by cases a5 <;> first | exact ⟨ua, ub⟩ | exact ⟨ub, ua⟩
  have p2 : Sub g.length (allN (l2.map Int.toNat) a4.toNat) (outcome a5 x y).1 ∧ Sub g.length (allN (l2.map Int.toNat) a4.toNat) (outcome a5 x y).2 := by cases a5 <;> first | exact ⟨ux, uy⟩ | exact ⟨uy, ux⟩
  have e4 : a4 = ((a4.toNat : Nat) : Int) := by omega
  have hl0 := none_l0 l2 W2 (by omega) g (outcome a5 a b).1 (outcome a5 a b).2 (outcome a5 x y).1 (outcome a5 x y).2 l2.length 0 a4.toNat (by omega) (show a4.toNat < 18446744073709551616 by omega) (none_l1 g (by omega) _ _ _ _ _ hAl p1.1 p1.2 p2.1 p2.2 g.length 0 (by omega))
  rw [← e4] at hl0
  refine Ev.step (fun k => by simp only [interlocklaw13_FlowNone.j0]; rw [if_neg (by decide)]) (Ev.bind g1 (Ev.bind he (Ev.bind he2 ?_)))
  refine ev_pos (by rw [p1.1.1]) (ev_pos (by rw [p1.2.1]) (ev_pos (by rw [p2.1.1]) ?_))
  rw [show ((((outcome a5 x y).2.length : Int) != (g.length : Int)) = false) by rw [p2.2.1]; simp]
  exact Ev.step (fun k => by simp only [interlocklaw13_FlowNone.j1]; rw [if_neg (by decide)]; rfl) hl0
end Go.Proofs.Ytfiemikganhgeaa.Pure
