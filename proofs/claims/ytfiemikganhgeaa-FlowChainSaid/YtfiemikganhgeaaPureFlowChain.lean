import Derived.Test.YtfiemikganhgeaaFS
import Derived.Test.YtfiemikganhgeaaSFlowChain
namespace Go.Proofs.Ytfiemikganhgeaa.Pure
set_option linter.unusedVariables false
open Go Go.RowKit Go.Proofs.Ytfiemikganhgeaa.P Go.Proofs.Ytfiemikganhgeaa.Opn Go.Proofs.Ytfiemikganhgeaa.Th Go.Proofs.YtfiemikganhgeaaW.PrintWords Go.Proofs.YtfiemikganhgeaaW.PrintLast Go.Proofs.YtfiemikganhgeaaW.PrintMore
/-- Places one behind the other. -/
def chainL (n : Nat) : List (List Int) := (List.range n).map (fun i : Nat => [((i + 1 : Nat) : Int)])
theorem chainL_len (n : Nat) : (chainL n).length = n := by unfold chainL; rw [List.length_map, List.length_range]
theorem chainL_succ (n : Nat) : chainL (n + 1) = chainL n ++ [[((n + 1 : Nat) : Int)]] := by unfold chainL; rw [List.range_succ, List.map_append]; rfl
theorem chainL_get (n i : Nat) (hi : i < n) : (chainL n).getD i [] = [((i + 1 : Nat) : Int)] := by
  unfold chainL
  rw [List.getD_eq_getElem?_getD, List.getElem?_map, List.getElem?_range hi]; rfl
theorem chain_src (n i : Nat) (hi : i < n) (x : Nat) : x ∈ ((preds (chainL n)).getD i []).map Int.toNat ↔ x + 1 = i := by
  rw [List.mem_map]
  constructor
  · rintro ⟨v, hv, rfl⟩
    obtain ⟨m, hm, rfl, h2, _⟩ := (preds_mem _ _ _).1 hv
    rw [chainL_len] at hm
    rw [chainL_get n m hm, List.mem_singleton] at h2
    rw [Int.toNat_natCast]
    omega
  · intro h
    refine ⟨(x : Int), (preds_mem _ _ _).2 ⟨x, by rw [chainL_len]; omega, rfl, ?_, by rw [chainL_len]; exact hi⟩, Int.toNat_natCast _⟩
    rw [chainL_get n x (by omega), List.mem_singleton]
    omega
theorem chain_first (n : Nat) (gs ks : List Int) (st : Int) (m : Bool) (hst : 0 ≤ st ∧ st < 18446744073709551616) {o : Nat → Nat} (h0 : 0 < n) (ho : ∀ i, i < n → o i < U) : (sysP (chainL n) gs ks st m false).inn o 0 = st.toNat := by
  have hl : ((preds (chainL n)).getD 0 []).map Int.toNat = [] := by
    cases h : ((preds (chainL n)).getD 0 []).map Int.toNat with
    | nil => rfl
    | cons x t => have := (chain_src n 0 h0 x).1 (by rw [h]; exact List.mem_cons_self); omega
  have hs : st.toNat < U := by show _ < 18446744073709551616; omega
  show inN m (edB false (chainL n) 0) st.toNat ((((preds (chainL n)).getD 0 []).map Int.toNat).map o) = _
  rw [hl]
  have he : edB false (chainL n) 0 = true := rfl
  rw [he]
  refine ext64 (inN_lt m true hs (fun v hv => by cases hv)) hs (fun i hi => ?_)
  rw [inN_bit m true _ _ hi]
  cases m <;> simp
theorem chain_next (n : Nat) (gs ks : List Int) (st : Int) (m : Bool) (hst : 0 ≤ st ∧ st < 18446744073709551616) {o : Nat → Nat} (i : Nat) (hi : i + 1 < n) (ho : ∀ i, i < n → o i < U) : (sysP (chainL n) gs ks st m false).inn o (i + 1) = o i := by
  have hs : st.toNat < U := by show _ < 18446744073709551616; omega
  show inN m (edB false (chainL n) (i + 1)) st.toNat ((((preds (chainL n)).getD (i + 1) []).map Int.toNat).map o) = _
  have he : edB false (chainL n) (i + 1) = false := rfl
  rw [he]
  have hsrc := chain_src n (i + 1) hi
  generalize ((preds (chainL n)).getD (i + 1) []).map Int.toNat = l at hsrc
  rw [inN_set m false (us := [o i]) hs (fun v hv => by
    obtain ⟨k, hk, rfl⟩ := List.mem_map.1 hv
    have := (hsrc k).1 hk
    exact ho k (by omega)) (fun v hv => by rw [List.mem_singleton.1 hv]; exact ho i (by omega)) (fun v => by
    rw [List.mem_map, List.mem_singleton]
    constructor
    · rintro ⟨k, hk, rfl⟩
      have := (hsrc k).1 hk
      rw [show k = i by omega]
    · rintro rfl
      exact ⟨i, (hsrc i).2 rfl, rfl⟩)]
  have hu : ∀ v ∈ [o i], v < U := fun v hv => by rw [List.mem_singleton.1 hv]; exact ho i (by omega)
  refine ext64 (inN_lt m false hs hu) (ho i (by omega)) (fun j hj => ?_)
  rw [inN_bit m false _ _ hj]
  cases m <;> simp
theorem chain_l1 (gs ks : List Int) (hg : W64 gs) (hk : W64 ks) (n : Nat) (hn : n ≤ 40) (hgl : n ≤ gs.length) (hkl : n ≤ ks.length) (st : Int) (m : Bool) (a b : List Nat) (hal : a.length = n) (hbl : b.length = n) (hst : 0 ≤ st ∧ st < 18446744073709551616) (hsol : Sol (sysP (chainL n) gs ks st m false) (fn a) (fn b)) (hb : ∀ i, i < n → fn a i < U ∧ fn b i < U) :
    ∀ (d i s : Nat), i + d = n → (i < n → s = fn a i) → Ev (fun k => interlocklaw13_FlowChain.l1 k gs ks (n : Int) (IntL a) (IntL b) (s : Int) (i : Int)) true
  | 0, i, s, hi, hs => Ev.step (fun k => by simp only [interlocklaw13_FlowChain.l1]; rw [if_neg (by omega)]) (Ev.bind known_ev (Ev.now _))
  | d + 1, i, s, hi, hs => by
    have hlt : i < n := by omega
    have hn' : i < (sysP (chainL n) gs ks st m false).n := by show i < (chainL n).length; rw [chainL_len]; exact hlt
    have e1 := hs hlt
    have hout : fn b i = trN (atI ks (i : Int)).toNat (atI gs (i : Int)).toNat (fn a i) := by
      rw [hsol.outs i hn', hsol.ins i hn']; rfl
    have hu := (hb i hlt).1
    have hoi := out_nat hg hk i hu
    have ag : atI gs (i : Int) = rd gs (i : Int) := by unfold atI; rw [if_neg (by omega)]
    have ak : atI ks (i : Int) = rd ks (i : Int) := by unfold atI; rw [if_neg (by omega)]
    unfold outI at hoi
    rw [← hout, ag, ak] at hoi
    have ih := chain_l1 gs ks hg hk n hn hgl hkl st m a b hal hbl hst hsol hb d (i + 1) (fn b i) (by omega) (fun h => by
      rw [hsol.ins (i + 1) (by show i + 1 < (chainL n).length; rw [chainL_len]; exact h), chain_next n gs ks st m hst i h (fun j hj => (hb j hj).2)])
    rw [← up i (by omega)] at ih
    refine Ev.step (fun k => ?_) ih
    simp only [interlocklaw13_FlowChain.l1]
    have la := IntL_len a
    have lb := IntL_len b
    rw [if_pos (show (i : Int) < (n : Int) by omega), if_pos (show 0 ≤ (i : Int) by omega), if_pos (show (i : Int) < ((IntL a).length : Int) by omega), IntL_rd, e1, if_pos rfl, if_pos (show (i : Int) < (ks.length : Int) by omega), if_pos (show (i : Int) < (gs.length : Int) by omega), if_pos (show (i : Int) < ((IntL b).length : Int) by omega), IntL_rd, hoi, if_pos rfl]
theorem chain_l0 (gs ks : List Int) (st : Int) (m : Bool) (n : Nat) (hn : n ≤ 40) {r : Bool} (h : Ev (fun k => (flow_Solve.f k (chainL n) gs ks st m false).bind fun bt260 => (if (bt260.1.length : Int) = (n : Int) then (interlocklaw13_FlowChain.j1 k gs ks st (n : Int) bt260.1 bt260.2 ((bt260.2.length : Int) != (n : Int))) else (interlocklaw13_FlowChain.j1 k gs ks st (n : Int) bt260.1 bt260.2 true))) r) :
    ∀ (d i : Nat), i + d = n → Ev (fun k => interlocklaw13_FlowChain.l0 k gs ks st (n : Int) (i : Int) (chainL i) gs ks st m false) r
  | 0, i, hi => by
    obtain rfl : i = n := by omega
    exact Ev.step (fun k => by simp only [interlocklaw13_FlowChain.l0]; rw [if_neg (by omega)]) h
  | d + 1, i, hi => by
    have ih := chain_l0 gs ks st m n hn h d (i + 1) (by omega)
    rw [chainL_succ, ← up i (by omega)] at ih
    have hl := chainL_len i
    refine Ev.step (fun k => ?_) ih
    simp only [interlocklaw13_FlowChain.l0]
    rw [if_pos (show (i : Int) < (n : Int) by omega), if_pos (by omega)]
theorem FlowChain : Stmt.FlowChain := by
  intro l0 l1 a2 a3 h0 h1 h2
  have W0 := w64_of h0
  have W1 := w64_of h1
  obtain ⟨d0, d1⟩ := bounds_u64 h2
  have hst : 0 ≤ a2 ∧ a2 < 18446744073709551616 := ⟨d0, by omega⟩
  refine Ev.rounds (r := true) ?_
  unfold interlocklaw13_FlowChain.f
  obtain ⟨n, hn, hn1, hn2, hn3⟩ : ∃ n : Nat, mn (mn (l0.length : Int) (l1.length : Int)) 40 = (n : Int) ∧ n ≤ 40 ∧ n ≤ l0.length ∧ n ≤ l1.length := by
    refine ⟨min (min l0.length l1.length) 40, ?_, by omega, by omega, by omega⟩
    unfold mn
    repeat' split
    all_goals omega
  rw [hn]
  have hrow : ∀ i, i < (chainL n).length → ((chainL n).getD i []).length ≤ 900000 := fun i hi => by
    rw [chainL_len] at hi
    rw [chainL_get n i hi]
    simp
  obtain ⟨a, b, ha, hb, hsol, he⟩ := flow_ev (chainL n) l0 l1 a2 a3 false (by rw [chainL_len]; omega) hrow W0 W1 hst
  rw [chainL_len] at ha hb
  have ok := sysP_ok (ss := chainL n) (ks := l1) (m := a3) (back := false) W0 hst
  have hbd : ∀ i, i < n → fn a i < U ∧ fn b i < U := fun i hi => hsol.alt ok i (by show i < (chainL n).length; rw [chainL_len]; exact hi)
  have hs1 := chain_l1 l0 l1 W0 W1 n hn1 hn2 hn3 a2 a3 a b ha hb hst hsol hbd n 0 a2.toNat (by omega) (fun h => by
    rw [hsol.ins 0 (by show 0 < (chainL n).length; rw [chainL_len]; exact h), chain_first n l0 l1 a2 a3 hst h (fun j hj => (hbd j hj).2)])
  rw [show ((a2.toNat : Nat) : Int) = a2 by omega] at hs1
  refine chain_l0 l0 l1 a2 a3 n hn1 ?_ n 0 (by omega)
  refine Ev.bind he ?_
  have e1 : (outcome false a b).1.length = n := (IntL_len a).trans ha
  have e2 : (outcome false a b).2.length = n := (IntL_len b).trans hb
  refine ev_pos (by rw [e1]) ?_
  rw [show ((((outcome false a b).2.length : Int) != (n : Int)) = false) by rw [e2]; simp]
  exact Ev.step (fun k => by simp only [interlocklaw13_FlowChain.j1]; rw [if_neg (by decide)]; rfl) hs1
end Go.Proofs.Ytfiemikganhgeaa.Pure
