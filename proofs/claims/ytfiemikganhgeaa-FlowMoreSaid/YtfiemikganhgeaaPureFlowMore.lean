import Derived.Test.YtfiemikganhgeaaFS
import Derived.Test.YtfiemikganhgeaaSFlowMore
namespace Go.Proofs.Ytfiemikganhgeaa.Pure
set_option linter.unusedVariables false
open Go Go.RowKit Go.Proofs.Ytfiemikganhgeaa.P Go.Proofs.Ytfiemikganhgeaa.Opn Go.Proofs.Ytfiemikganhgeaa.Th Go.Proofs.YtfiemikganhgeaaW.PrintWords Go.Proofs.YtfiemikganhgeaaW.PrintLast Go.Proofs.YtfiemikganhgeaaW.PrintMore
theorem le_ff {a b : Nat} (h : ∀ i, i < 64 → a.testBit i = true → b.testBit i = true) : Le false a b := fun i hi => by
  simp only [Bool.false_eq_true, if_false]; exact h i hi
theorem ff_le {a b : Nat} (h : Le false a b) {i : Nat} (hi : i < 64) (ha : a.testBit i = true) : b.testBit i = true := by
  have := h i hi
  simp only [Bool.false_eq_true, if_false] at this
  exact this ha
theorem inN_more (m e : Bool) {s s' : Nat} (hs : Le false s s') (l : List Nat) {o o' : Nat → Nat} (ho : ∀ k ∈ l, Le false (o k) (o' k)) : Le false (inN m e s (l.map o)) (inN m e s' (l.map o')) := le_ff fun i hi h => by
  rw [inN_bit _ _ _ _ hi] at h ⊢
  cases m
  · simp only [Bool.false_eq_true, if_false, Bool.or_eq_true, Bool.and_eq_true, List.any_eq_true] at h ⊢
    rcases h with ⟨h1, h2⟩ | ⟨x, hx, hb⟩
    · exact .inl ⟨h1, ff_le hs hi h2⟩
    · obtain ⟨k, hk, rfl⟩ := List.mem_map.1 hx
      exact .inr ⟨o' k, List.mem_map.2 ⟨k, hk, rfl⟩, ff_le (ho k hk) hi hb⟩
  · simp only [if_true, Bool.and_eq_true, List.all_eq_true] at h ⊢
    refine ⟨?_, fun x hx => ?_⟩
    · have h1 := h.1
      cases e
      · rfl
      · simp only [Bool.not_true, Bool.false_or] at h1 ⊢
        exact ff_le hs hi h1
    · obtain ⟨k, hk, rfl⟩ := List.mem_map.1 hx
      exact ff_le (ho k hk) hi (h.2 _ (List.mem_map.2 ⟨k, hk, rfl⟩))
theorem trN_more (k : Nat) {g g' x x' : Nat} (hg : Le false g g') (hx : Le false x x') : Le false (trN k g x) (trN k g' x') := le_ff fun i hi h => by
  unfold trN at h ⊢
  rw [Nat.testBit_or, Nat.testBit_and, Bool.or_eq_true, Bool.and_eq_true] at h ⊢
  exact h.imp (fun c => ⟨ff_le hx hi c.1, c.2⟩) (ff_le hg hi)
theorem sol_more {ss : List (List Int)} {gs gs' ks : List Int} {st st' : Int} {m back : Bool} (hst : Le false st.toNat st'.toNat) (hgs : ∀ i : Nat, Le false (atI gs (i : Int)).toNat (atI gs' (i : Int)).toNat) (ok : (sysP ss gs ks st m back).Ok)
    {a b a' b' : Nat → Nat} (h : Sol (sysP ss gs ks st m back) a b) (h' : Sol (sysP ss gs' ks st' m back) a' b') : ∀ i, i < ss.length → Le false (a i) (a' i) ∧ Le false (b i) (b' i) := by
  have hin : ∀ {o o' : Nat → Nat} {i : Nat}, (∀ k ∈ (sysP ss gs ks st m back).src i, Le false (o k) (o' k)) → Le false ((sysP ss gs ks st m back).inn o i) ((sysP ss gs' ks st' m back).inn o' i) := fun {o o' i} ho => inN_more m _ hst ((sysP ss gs ks st m back).src i) ho
  have hout : ∀ {o o' : Nat → Nat} {i : Nat}, (∀ k ∈ (sysP ss gs ks st m back).src i, Le false (o k) (o' k)) → Le false ((sysP ss gs ks st m back).out o i) ((sysP ss gs' ks st' m back).out o' i) := fun {o o' i} ho => trN_more _ (hgs i) (hin ho)
  have hb : ∀ i, i < ss.length → Le false (b i) (b' i) := by
    cases m
    · exact fun i hi => h.least b' ⟨h'.bd, fun j hj => by
        have e := h'.outs j hj
        show Le false _ (b' j)
        rw [e]
        have := hout (o := b') (o' := b') (i := j) (fun k _ => Le.refl _ _)
        exact this⟩ i hi
    · intro i hi
      have h2 : Le true (b' i) (b i) := h'.least b ⟨h.bd, fun j hj => by
        have e := h.outs j hj
        have h3 := hout (o := b) (o' := b) (i := j) (fun k _ => Le.refl _ _)
        rw [← e] at h3
        show Le true _ (b j)
        intro q hq
        simp only [if_true]
        exact ff_le h3 hq⟩ i hi
      exact le_ff fun q hq hbq => by
        have := h2 q hq
        simp only [if_true] at this
        exact this hbq
  refine fun i hi => ⟨?_, hb i hi⟩
  rw [h.ins i hi, h'.ins i hi]
  exact hin (fun k hk => hb k (ok.src_lt i hi k hk))
theorem or_val {x y : Int} (hx : 0 ≤ x ∧ x < 18446744073709551616) (hy : 0 ≤ y ∧ y < 18446744073709551616) : Go.bits .or .u64 x y = ((x.toNat ||| y.toNat : Nat) : Int) ∧ x.toNat ||| y.toNat < 18446744073709551616 := by
  have h := or_nat x.toNat y.toNat (by omega) (by omega)
  rw [show ((x.toNat : Nat) : Int) = x by omega, show ((y.toNat : Nat) : Int) = y by omega] at h
  exact ⟨h, Nat.or_lt_two_pow (n := 64) (show x.toNat < 18446744073709551616 by omega) (show y.toNat < 18446744073709551616 by omega)⟩
theorem gen2_facts {l : List Int} (hl : W64 l) {more : Int} (hm : 0 ≤ more ∧ more < 18446744073709551616) (a : Int) (ha : 0 ≤ a) : W64 (gen2 l more a) ∧ ∀ i : Nat, Le false (atI l (i : Int)).toNat (atI (gen2 l more a) (i : Int)).toNat := by
  unfold gen2
  by_cases h0 : l.length = 0
  · rw [if_pos h0]; exact ⟨hl, fun i => Le.refl _ _⟩
  rw [if_neg h0]
  have t0 := Int.tmod_nonneg (l.length : Int) ha
  have t1 := Int.tmod_lt_of_pos a (show 0 < (l.length : Int) by omega)
  obtain ⟨ix, hix⟩ : ∃ ix : Nat, Int.tmod a (l.length : Int) = (ix : Int) := ⟨(Int.tmod a (l.length : Int)).toNat, by omega⟩
  rw [hix, Int.toNat_natCast, rd_nat]
  have hlt : ix < l.length := by omega
  have hv := hl (l.getD ix 0) (by rw [List.getD_eq_getElem?_getD, List.getElem?_eq_getElem hlt]; exact List.getElem_mem hlt)
  obtain ⟨e1, e2⟩ := or_val hv hm
  rw [e1]
  refine ⟨fun x hx => ?_, fun i => ?_⟩
  · rcases List.mem_or_eq_of_mem_set hx with hx | rfl
    · exact hl x hx
    · omega
  · unfold atI
    rw [List.length_set]
    split
    · exact Le.refl _ _
    · rw [rd_nat, rd_nat]
      simp only [List.getD_eq_getElem?_getD, List.getElem?_set]
      by_cases e : ix = i
      · subst e
        rw [if_pos rfl, if_pos hlt, ← List.getD_eq_getElem?_getD]
        show Le false (l.getD ix 0).toNat ((((l.getD ix 0).toNat ||| more.toNat : Nat) : Int)).toNat
        rw [Int.toNat_natCast]
        exact Le.or_l _ _
      · rw [if_neg e]; exact Le.refl _ _
theorem less_ok (back : Bool) {n : Nat} {a b x y : List Nat} (ha : a.length = n) (hb : b.length = n) (h1 : ∀ i, i < n → fn a i < U ∧ fn b i < U) (h2 : ∀ i, i < n → fn x i < U ∧ fn y i < U) (h : ∀ i, i < n → Le false (fn a i) (fn x i) ∧ Le false (fn b i) (fn y i)) : lessB (outcome back a b) (outcome back x y) = true := by
  have k1 : ∀ i, i < n → Go.bits .andNot .u64 (rd (IntL a) (i : Int)) (rd (IntL x) (i : Int)) = 0 := fun i hi => by
    rw [IntL_rd, IntL_rd, andNot_nat _ _ (h1 i hi).1 (h2 i hi).1, sub_minus (h1 i hi).1 (h2 i hi).1 (h i hi).1]; rfl
  have k2 : ∀ i, i < n → Go.bits .andNot .u64 (rd (IntL b) (i : Int)) (rd (IntL y) (i : Int)) = 0 := fun i hi => by
    rw [IntL_rd, IntL_rd, andNot_nat _ _ (h1 i hi).2 (h2 i hi).2, sub_minus (h1 i hi).2 (h2 i hi).2 (h i hi).2]; rfl
  unfold lessB
  refine List.all_eq_true.2 (fun i hi => ?_)
  have hi := List.mem_range.1 hi
  have la := IntL_len a
  have lb := IntL_len b
  rw [Bool.and_eq_true, decide_eq_true_eq, decide_eq_true_eq]
  cases back
  · have hi : i < (IntL a).length := hi
    exact ⟨k1 i (by omega), k2 i (by omega)⟩
  · have hi : i < (IntL b).length := hi
    exact ⟨k2 i (by omega), k1 i (by omega)⟩
theorem FlowMore : Stmt.FlowMore := by
  intro a0 l1 l2 l3 a4 a5 a6 a7 h0 h1 h2 h3 h4 h5 h6 h7
  have W2 := w64_of h2
  have W3 := w64_of h3
  obtain ⟨b0, b1⟩ := bounds_u8 h0
  obtain ⟨c0, c1⟩ := bounds_u8 h7
  obtain ⟨d0, d1⟩ := bounds_u64 h4
  obtain ⟨f0, f1⟩ := bounds_u64 h5
  have hst : 0 ≤ a4 ∧ a4 < 18446744073709551616 := ⟨d0, by omega⟩
  have hmo : 0 ≤ a5 ∧ a5 < 18446744073709551616 := ⟨f0, by omega⟩
  have hby : ∀ x ∈ l1, 0 ≤ x ∧ x ≤ 255 := fun x hx => by obtain ⟨q0, q1⟩ := bounds_u8 (h1.2 x hx); exact ⟨q0, by omega⟩
  refine Ev.rounds (r := true) ?_
  unfold interlocklaw13_FlowMore.f
  refine Ev.bind known_ev (ev_pos rfl ?_)
  by_cases c2 : (l2.length : Int) > 70
  · exact ev_pos c2 (Ev.now _)
  refine ev_neg c2 ?_
  by_cases c3 : (l3.length : Int) > 70
  · exact ev_pos c3 (Ev.now _)
  refine ev_neg c3 (ev_pos ⟨c0, by omega⟩ ?_)
  obtain ⟨g, g1, g2, g3, g4⟩ := graph_ev a0 l1 ⟨b0, by omega⟩ hby
  obtain ⟨WG, HG⟩ := gen2_facts W2 hmo a7 c0
  obtain ⟨e1, e2⟩ := or_val hst hmo
  have hst2 : 0 ≤ Go.bits .or .u64 a4 a5 ∧ Go.bits .or .u64 a4 a5 < 18446744073709551616 := by rw [e1]; omega
  obtain ⟨a, b, ha, hb, hsol, he⟩ := flow_ev g l2 l3 a4 (mOf a6) (bOf a6) (by omega) (fun i _ => by have := g4 i; omega) W2 W3 hst
  obtain ⟨x, y, hx, hy, hsol2, he2⟩ := flow_ev g (gen2 l2 a5 a7) l3 (Go.bits .or .u64 a4 a5) (mOf a6) (bOf a6) (by omega) (fun i _ => by have := g4 i; omega) WG W3 hst2
  have ok1 := sysP_ok (ss := g) (ks := l3) (m := mOf a6) (back := bOf a6) W2 hst
  have ok2 := sysP_ok (ss := g) (ks := l3) (m := mOf a6) (back := bOf a6) WG hst2
  have hle := sol_more (by rw [e1, Int.toNat_natCast]; exact Le.or_l _ _) HG ok1 hsol hsol2
  refine Ev.bind g1 (Ev.bind he (Ev.bind he2 ?_))
  have q : ∀ {u v : List Nat}, u.length = g.length → v.length = g.length → (outcome (bOf a6) u v).1.length = g.length ∧ (outcome (bOf a6) u v).2.length = g.length := fun {u v} hu hv => by
    cases bOf a6
    · exact ⟨(IntL_len u).trans hu, (IntL_len v).trans hv⟩
    · exact ⟨(IntL_len v).trans hv, (IntL_len u).trans hu⟩
  exact ev_pos ⟨(q ha hb).1, (q ha hb).2, (q hx hy).1, (q hx hy).2⟩ (ev_pos (less_ok _ ha hb (hsol.alt ok1) (hsol2.alt ok2) hle) (Ev.now _))
end Go.Proofs.Ytfiemikganhgeaa.Pure
