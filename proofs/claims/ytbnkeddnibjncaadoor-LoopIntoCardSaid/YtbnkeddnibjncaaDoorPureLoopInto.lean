import Derived.Test.YtbnkeddnibjncaaDoorRQ
import Derived.Test.YtbnkeddnibjncaaDoorSLoopInto
namespace Go.Proofs.YtbnkeddnibjncaaDoor.Pure
set_option linter.unusedVariables false
set_option linter.unusedSectionVars false
open Go Go.RowKit Go.Proofs.YtbnkeddnibjncaaDoor.P Go.Proofs.YtbnkeddnibjncaaDoor.Opn Go.Proofs.YtbnkeddnibjncaaDoor.Th Go.Proofs.YtbnkeddnibjncaaDoorW.PrintWords Go.Proofs.YtbnkeddnibjncaaDoorW.PrintLast Go.Proofs.YtbnkeddnibjncaaDoorW.PrintMore
section
variable {ss : List (List Int)} (hg : Gok ss) {L : List S35} (hL : ∀ M ∈ L, IsLoop ss M) (hll : L.length ≤ 64) (hrise : L.Pairwise (fun A B => A.f0 < B.f0))
  {rc : List Bool} (hrl : rc.length = ss.length) (hrc : ∀ i, i < ss.length → (rc.getD i false = true ↔ Rch ss i)) {o : List Nat} (hol : o.length = ss.length) (ho : ∀ j, fn o j < U) (hd : ∀ i, i < ss.length → ∀ d, d < 64 → ((fn o i).testBit d = true ↔ Dom ss d i))
  {ps : List (List Int)} (hpl : ps.length = ss.length) (hps : ∀ q, q < ss.length → PrOk ss q (ps.getD q []))
theorem rdP (ps : List (List Int)) (x : Nat) : rd_L1 ps (x : Int) = ps.getD x [] := by unfold rd_L1; rw [Int.toNat_natCast]
include hg hL hll hrl hrc hpl hps in
theorem into_l2 (m : Nat) (hm : m < L.length) (a : Nat) (ha : Head ss a) (hf0 : (rd_T35 L (m : Int)).f0 = (a : Int)) (od : List Int) (j : Nat) (hj : j < (bodyL ss a).length) (x : Nat) (hx : (bodyL ss a).getD j 0 = (x : Int)) (hxb : InB ss a x)
    (cont : Ev (fun k => interlocklaw12_LoopInto.l1 k ss L od rc ps (m : Int) (bodyL ss a) ((j + 1 : Nat) : Int)) true) : ∀ (d q : Nat), q + d = (ps.getD x []).length →
    Ev (fun k => interlocklaw12_LoopInto.l2 k ss L od rc ps (m : Int) (bodyL ss a) (j : Int) (q : Int)) true
  | d, q, hq => by
    have hn := hg.n64
    have hxl := (hxb.dom ha.rch).1.lt
    obtain ⟨hp1, hp2⟩ := hps x hxl
    have hbl := bodyL_len ss a
    have hstop : Ev (fun k => interlocklaw12_LoopInto.j4 k ss L od rc ps (m : Int) (bodyL ss a) (j : Int) (q : Int) false) true := Ev.step (f := fun k => _) (fun k => by
      simp only [interlocklaw12_LoopInto.j4]
      rw [if_neg (by decide), up j (by omega)]) cont
    have hhead : Ev (fun k => if (q : Int) < ((ps.getD x []).length : Int) then interlocklaw12_LoopInto.j4 k ss L od rc ps (m : Int) (bodyL ss a) (j : Int) (q : Int) ((x : Int) != (a : Int)) else interlocklaw12_LoopInto.j4 k ss L od rc ps (m : Int) (bodyL ss a) (j : Int) (q : Int) false) true → Ev (fun k => interlocklaw12_LoopInto.l2 k ss L od rc ps (m : Int) (bodyL ss a) (j : Int) (q : Int)) true := fun h =>
      Ev.step (f := fun k => _) (fun k => by
        simp only [interlocklaw12_LoopInto.l2]
        rw [if_pos (show 0 ≤ (j : Int) by omega), if_pos (show (j : Int) < ((bodyL ss a).length : Int) by omega), rd_nat, hx, rdP, if_pos (show 0 ≤ (x : Int) by omega), if_pos (show (x : Int) < (ps.length : Int) by omega), if_pos (show 0 ≤ (m : Int) by omega), if_pos (show (m : Int) < (L.length : Int) by omega), hf0]) h
    refine hhead ?_
    match d, hq with
    | 0, hq => exact ev_neg (by omega) hstop
    | d + 1, hq =>
      have hql : q < (ps.getD x []).length := by omega
      refine ev_pos (by omega) ?_
      by_cases hxa : x = a
      · rw [show ((x : Int) != (a : Int)) = false by rw [hxa]; exact bne_self_eq_false _]
        exact hstop
      · rw [show ((x : Int) != (a : Int)) = true from bne_iff_ne.2 (by omega)]
        have hmem : (ps.getD x []).getD q 0 ∈ ps.getD x [] := by
          rw [List.getD_eq_getElem?_getD (l := ps.getD x []), List.getElem?_eq_getElem hql]; exact List.getElem_mem hql
        obtain ⟨p, hpe, hpn, hpx⟩ := (hp2 _).1 hmem
        have ih := into_l2 m hm a ha hf0 od j hj x hx hxb cont d (q + 1) (by omega)
        have key : Ev (fun k => if rdOf false rc (p : Int) = true then ((interlocklaw12_has.f k (bodyL ss a) (p : Int)).bind fun t => if t = true then interlocklaw12_LoopInto.l2 k ss L od rc ps (m : Int) (bodyL ss a) (j : Int) ((q + 1 : Nat) : Int) else none) else interlocklaw12_LoopInto.l2 k ss L od rc ps (m : Int) (bodyL ss a) (j : Int) ((q + 1 : Nat) : Int)) true := by
          by_cases hr : rc.getD p false = true
          · have hin : (p : Int) ∈ bodyL ss a := (bodyL_mem ss a ha.rch _).2 ⟨p, rfl, .pred hxb hxa ⟨hpn, hxl, hpx⟩ ((hrc p hpn).1 hr)⟩
            have hb := has_ev (bodyL ss a) (p : Int) (by omega)
            rw [decide_eq_true hin] at hb
            exact ev_pos (by rw [rdB]; exact hr) (Ev.bind hb (ev_pos rfl ih))
          · exact ev_neg (by rw [rdB]; exact hr) ih
        refine Ev.step (f := fun k => _) (fun k => by
          simp only [interlocklaw12_LoopInto.j4]
          rw [if_pos trivial, if_pos (show 0 ≤ (j : Int) by omega), if_pos (show (j : Int) < ((bodyL ss a).length : Int) by omega), rd_nat, hx, rdP, if_pos (show 0 ≤ (x : Int) by omega), if_pos (show (x : Int) < (ps.length : Int) by omega), if_pos (show 0 ≤ (q : Int) by omega), if_pos (show (q : Int) < ((ps.getD x []).length : Int) by omega), rd_nat, hpe, if_pos (show 0 ≤ (p : Int) by omega), if_pos (show (p : Int) < (rc.length : Int) by omega), up q (by omega)]) key
include hg hL hll hrise hrl hrc hol ho hd hpl hps in
theorem into_l1 (m : Nat) (hm : m < L.length) (a : Nat) (ha : Head ss a) (hf0 : (rd_T35 L (m : Int)).f0 = (a : Int)) (cont : Ev (fun k => interlocklaw12_LoopInto.l0 k ss L (IL o) rc ps ((m + 1 : Nat) : Int)) true) : ∀ (d j : Nat), j + d = (bodyL ss a).length →
    Ev (fun k => interlocklaw12_LoopInto.l1 k ss L (IL o) rc ps (m : Int) (bodyL ss a) (j : Int)) true
  | 0, j, hj => by
    have hn := hg.n64
    have hbl := bodyL_len ss a
    have hb := has_ev (bodyL ss a) (a : Int) (by omega)
    rw [decide_eq_true ((bodyL_mem ss a ha.rch _).2 ⟨a, rfl, .head⟩)] at hb
    refine Ev.step (f := fun k => _) (fun k => by
      simp only [interlocklaw12_LoopInto.l1]
      rw [if_neg (show ¬ (j : Int) < ((bodyL ss a).length : Int) by omega), if_pos (show 0 ≤ (m : Int) by omega), if_pos (show (m : Int) < (L.length : Int) by omega), hf0, up m (by omega)]) (Ev.bind hb (ev_pos rfl ?_))
    by_cases h0 : (m : Int) > 0
    · refine ev_pos h0 ?_
      obtain ⟨m', rfl⟩ : ∃ m', m = m' + 1 := ⟨m - 1, by omega⟩
      have ew : wrap64 (((m' + 1 : Nat) : Int) - 1) = (m' : Int) := by rw [w64 (by omega) (by omega)]; omega
      rw [ew]
      refine ev_pos (by omega) (ev_pos (by omega) (ev_neg ?_ cont))
      have hlt := (List.pairwise_iff_getElem.1 hrise) m' (m' + 1) (by omega) hm (by omega)
      have e1 : rd_T35 L (m' : Int) = L[m'] := by
        unfold rd_T35
        rw [Int.toNat_natCast, List.getD_eq_getElem?_getD, List.getElem?_eq_getElem (by omega)]; rfl
      have e2 : rd_T35 L ((m' + 1 : Nat) : Int) = L[m' + 1] := by
        unfold rd_T35
        rw [Int.toNat_natCast, List.getD_eq_getElem?_getD, List.getElem?_eq_getElem hm]; rfl
      rw [e2] at hf0
      rw [e1]
      omega
    · exact ev_neg h0 cont
  | d + 1, j, hj => by
    have hn := hg.n64
    have hbl := bodyL_len ss a
    have hjl : j < (bodyL ss a).length := by omega
    have eg : (bodyL ss a).getD j 0 = (bodyL ss a)[j] := by rw [List.getD_eq_getElem?_getD, List.getElem?_eq_getElem hjl]; rfl
    obtain ⟨x, hx, hxb⟩ := (bodyL_mem ss a ha.rch _).1 (List.getElem_mem hjl)
    rw [← eg] at hx
    have hdm := hxb.dom ha.rch
    have hxl := hdm.1.lt
    have hal := ha.rch.lt
    have hil : (IL o).length = ss.length := by rw [IL_len, hol]
    have ih := into_l1 m hm a ha hf0 cont d (j + 1) (by omega)
    have hgo := into_l2 hg hL hll hrl hrc hpl hps m hm a ha hf0 (IL o) j hjl x hx hxb ih (ps.getD x []).length 0 (Nat.zero_add _)
    have hj2 : Ev (fun k => interlocklaw12_LoopInto.j2 k ss L (IL o) rc ps (m : Int) (bodyL ss a) (j : Int) false) true := Ev.step (f := fun k => _) (fun k => by
      simp only [interlocklaw12_LoopInto.j2]
      rw [if_neg (by decide)]; rfl) hgo
    have hhas := rhas_ev (fn o x) (ho x) (a : Int)
    rw [decide_eq_true (by omega : 0 ≤ (a : Int) ∧ (a : Int) < 64), Bool.true_and, Int.toNat_natCast, (hd x hxl a (by omega)).2 hdm] at hhas
    refine Ev.step (f := fun k => _) (fun k => by
      simp only [interlocklaw12_LoopInto.l1]
      rw [if_pos (show (j : Int) < ((bodyL ss a).length : Int) by omega), if_pos (show 0 ≤ (j : Int) by omega), rd_nat, hx, if_neg (show ¬ (x : Int) < 0 by omega), if_neg (show ¬ (x : Int) ≥ (ss.length : Int) by omega), if_pos (show 0 ≤ (x : Int) by omega), if_pos (show (x : Int) < (rc.length : Int) by omega), rdB, if_pos ((hrc x hxl).2 hdm.1), if_pos (show (x : Int) < ((IL o).length : Int) by omega), if_pos (show 0 ≤ (m : Int) by omega), if_pos (show (m : Int) < (L.length : Int) by omega), IL_rd, hf0]) (Ev.bind hhas (ev_pos rfl ?_))
    by_cases h0 : (j : Int) > 0
    · refine ev_pos h0 ?_
      obtain ⟨j', rfl⟩ : ∃ j', j = j' + 1 := ⟨j - 1, by omega⟩
      have ew : wrap64 (((j' + 1 : Nat) : Int) - 1) = (j' : Int) := by rw [w64 (by omega) (by omega)]; omega
      rw [ew]
      refine ev_pos (by omega) (ev_pos (by omega) ?_)
      have hlt := (List.pairwise_iff_getElem.1 (bodyL_rise ss a)) j' (j' + 1) (by omega) hjl (by omega)
      have e1 : rd (bodyL ss a) (j' : Int) = (bodyL ss a)[j'] := by
        rw [rd_nat, List.getD_eq_getElem?_getD, List.getElem?_eq_getElem (by omega)]; rfl
      rw [e1, decide_eq_false (by rw [← hx, eg]; omega)]
      exact hj2
    · exact ev_neg h0 hj2
include hg hL hll hrise hrl hrc hol ho hd hpl hps in
theorem into_l0 : ∀ (d m : Nat), m + d = L.length → Ev (fun k => interlocklaw12_LoopInto.l0 k ss L (IL o) rc ps (m : Int)) true
  | 0, m, hm => Ev.step (f := fun k => _) (fun k => by
      simp only [interlocklaw12_LoopInto.l0]
      rw [if_neg (show ¬ (m : Int) < (L.length : Int) by omega)]) (Ev.bind known_ev (Ev.now _))
  | d + 1, m, hm => by
    have hlt : m < L.length := by omega
    obtain ⟨a, ha, e⟩ := hL _ (rdT L m hlt)
    have ef1 : (rd_T35 L (m : Int)).f1 = bodyL ss a := by rw [e]
    have ef0 : (rd_T35 L (m : Int)).f0 = (a : Int) := by rw [e]
    exact Ev.step (f := fun k => _) (fun k => by
      simp only [interlocklaw12_LoopInto.l0]
      rw [if_pos (show (m : Int) < (L.length : Int) by omega), if_pos (show 0 ≤ (m : Int) by omega), ef1]; rfl) (into_l1 hg hL hll hrise hrl hrc hol ho hd hpl hps m hlt a ha ef0 (into_l0 d (m + 1) (by omega)) (bodyL ss a).length 0 (Nat.zero_add _))
end
theorem LoopInto : Stmt.LoopInto := by
  intro a0 l1 h0 h1
  obtain ⟨b0, b1⟩ := bounds_u8 h0
  have hby : ∀ x ∈ l1, 0 ≤ x ∧ x ≤ 255 := fun x hx => by obtain ⟨q0, q1⟩ := bounds_u8 (h1.2 x hx); exact ⟨q0, by omega⟩
  refine Ev.rounds (r := true) ?_
  unfold interlocklaw12_LoopInto.f
  obtain ⟨g, g1, g2, g3, g4⟩ := graph_ev a0 l1 ⟨b0, by omega⟩ hby
  have hg := graph_ok g3 g4
  have hlen := loops_len g g.length 0
  obtain ⟨o, o1, o2, o3, o4⟩ := rdoms_ev hg
  obtain ⟨rc, r1, r2, r3⟩ := rreach_ev hg
  obtain ⟨ps, p1, p2, p3⟩ := rpreds_ev hg
  exact Ev.bind g1 (Ev.bind (of_ev hg) (Ev.bind o1 (Ev.bind r1 (Ev.bind p1 (into_l0 hg (L := OfN g) (fun M hM => loops_mem g g.length 0 M hM) (Nat.le_trans hlen (Nat.le_trans g3 (by decide))) (loops_rise g g.length 0).1 r2 r3 o2 o3 o4 p2 p3 (OfN g).length 0 (Nat.zero_add _))))))
end Go.Proofs.YtbnkeddnibjncaaDoor.Pure
