/- SegStraight: for every row of bytes, plain instructions alone are one row; the choices are bytes, nothing else is asked. -/
import Derived.Test.YtpmhkfpmadcneaaSSegStraight
import Derived.Test.YtpmhkfpmadcneaaTh6
namespace Go.Proofs.Ytpmhkfpmadcneaa.Pure
open Go Go.RowKit Go.Proofs.Ytpmhkfpmadcneaa.P Go.Proofs.Ytpmhkfpmadcneaa.Opn Go.Proofs.Ytpmhkfpmadcneaa.Th Go.Proofs.YtpmhkfpmadcneaaW.PrintWords Go.Proofs.YtpmhkfpmadcneaaW.PrintLast Go.Proofs.YtpmhkfpmadcneaaW.PrintMore
def PlainAll (c : List S25) : Prop := ∀ x ∈ c, 0 ≤ x.f0 ∧ x.f0 ≤ 8
theorem plain_hb (c : List S25) (hp : PlainAll c) (i : Nat) (hi : i < c.length) : hb c i = true ↔ i = 0 := by
  have hat : ∀ j : Nat, j < c.length → 0 ≤ (rd_T25 c j).f0 ∧ (rd_T25 c j).f0 ≤ 8 := fun j hj => hp _ (by
    show c.getD (j : Int).toNat z25 ∈ c
    rw [Int.toNat_natCast, List.getD_eq_getElem?_getD, List.getElem?_eq_getElem hj]
    exact List.getElem_mem hj)
  rw [hb_iff c (fun x hx => ⟨(hp x hx).1, by have := (hp x hx).2; omega⟩) i hi]
  constructor
  · rintro (h | h | h | ⟨j, h1, h2 | h2⟩)
    · exact h
    · exact absurd (hat i hi).2 h
    · exact absurd (hat (i - 1) (by omega)).2 h
    · have := hat j h1; omega
    · have := hat j h1; omega
  · exact .inl
theorem straight_j1 (x1 : Int) (h0 : 0 ≤ x1) (h255 : x1 ≤ 255) (c : List S25) (hp : PlainAll c) (hl : c.length ≤ 50) : Ev (fun k => interlocklaw11_SegStraight.j1 k x1 c) true := by
  have hc : OpsOK c := fun x hx => ⟨(hp x hx).1, by have := (hp x hx).2; omega⟩
  refine Ev.step (fun k => by simp only [interlocklaw11_SegStraight.j1]; rfl) ?_
  by_cases he : (c.length : Int) = 0
  · refine Ev.congr (fun k => if_pos he) (Ev.bind known_ev (Ev.congr (fun k => if_pos rfl) ?_))
    have h0 : Ev (fun _ : Nat => seg_Heads.f c) (headsK c c.length) := by rw [heads_f c hc (by omega)]; exact Ev.now _
    refine Ev.bind h0 ?_
    have : (((headsK c c.length).length : Int) == 0) = true := by rw [headsK_length, he]; rfl
    rw [this]; exact Ev.now _
  · have hq : 0 ≤ Int.tmod (wrap64 x1) (c.length : Int) ∧ Int.tmod (wrap64 x1) (c.length : Int) < (c.length : Int) := by
      rw [w64 (by omega) (by omega), Int.tmod_eq_emod_of_nonneg h0]
      exact ⟨Int.emod_nonneg _ (by omega), Int.emod_lt_of_pos _ (by omega)⟩
    refine Ev.congr (fun k => if_neg he) (Ev.bind known_ev (Ev.congr (fun k => if_pos rfl) ?_))
    generalize Int.tmod (wrap64 x1) (c.length : Int) = q at hq ⊢
    obtain ⟨n, rfl⟩ := Int.eq_ofNat_of_zero_le hq.1
    obtain ⟨h, h1, h2⟩ := head_in c hc (by omega) n (by omega)
    obtain ⟨t, h3, h4⟩ := tail_in c hc (by omega) n (by omega)
    have nf : ∀ j, 0 < j → j < c.length → hb c j = false := fun j h5 h6 => by
      cases hv : hb c j with
      | false => rfl
      | true => have := (plain_hb c hp j h6).1 hv; omega
    have e1 : h = 0 := h2.one ⟨Nat.zero_le _, (plain_hb c hp 0 (by omega)).2 rfl, fun j h5 h6 => nf j h5 (by omega)⟩
    have e2 : t = c.length := h4.one ⟨by omega, Nat.le_refl _, fun h => by omega, fun j h5 h6 => nf j (by omega) h6⟩
    subst e1
    rw [e2] at h3
    refine Ev.bind h1 (Ev.congr (fun k => if_pos rfl) (Ev.bind h3 ?_))
    have : (((c.length : Nat) : Int) == (c.length : Int)) = true := by simp
    rw [this]; exact Ev.now _
theorem straight_l0 (l : List Int) (hl : U8s l) (_hll : l.length ≤ 9223372036854775807) (x1 : Int) (h0 : 0 ≤ x1) (h255 : x1 ≤ 255) : ∀ (d i : Nat) (c : List S25), i + d = 50 → c.length = i → i ≤ l.length → PlainAll c → Ev (fun k => interlocklaw11_SegStraight.l0 k l x1 c (i : Int)) true := by
  intro d
  induction d with
  | zero =>
    intro i c hi hcl _ hp
    refine Ev.step (f := fun k => interlocklaw11_SegStraight.j1 k x1 c) (fun k => ?_) (straight_j1 x1 h0 h255 c hp (by omega))
    simp only [interlocklaw11_SegStraight.l0]
    by_cases h : (i : Int) < (l.length : Int)
    · rw [if_pos h, if_neg (by omega)]
    · rw [if_neg h]
  | succ d ih =>
    intro i c hi hcl hil hp
    by_cases h : (i : Int) < (l.length : Int)
    · have hv := hl.at_ (i := i) (by omega)
      have e2 : Int.tmod (rd l (i : Int)) 9 = rd l (i : Int) % 9 := Int.tmod_eq_emod_of_nonneg hv.1
      have hp2 : PlainAll (c ++ [(⟨Int.tmod (rd l (i : Int)) 9, 0, 0, 0⟩ : S25)]) := by
        intro x hx
        rcases List.mem_append.1 hx with h1 | h1
        · exact hp x h1
        · rw [List.mem_singleton.1 h1]
          show 0 ≤ Int.tmod (rd l (i : Int)) 9 ∧ Int.tmod (rd l (i : Int)) 9 ≤ 8
          rw [e2]; omega
      have hih := ih (i + 1) _ (by omega) (by rw [List.length_append, hcl]; rfl) (by omega) hp2
      have E1 : Aside0 (wrap64 ((i : Int) + 1) = ((i + 1 : Nat) : Int)) := ⟨by rw [w64 (by omega) (by omega)]; rfl⟩
      refine Ev.step (f := fun k => interlocklaw11_SegStraight.l0 k l x1 (c ++ [(⟨Int.tmod (rd l (i : Int)) 9, 0, 0, 0⟩ : S25)]) ((i + 1 : Nat) : Int)) (fun k => ?_) hih
      simp only [interlocklaw11_SegStraight.l0]
      rw [if_pos h, if_pos (by omega), if_pos (by omega), if_pos (by omega), E1.out]
    · refine Ev.step (f := fun k => interlocklaw11_SegStraight.j1 k x1 c) (fun k => ?_) (straight_j1 x1 h0 h255 c hp (by omega))
      simp only [interlocklaw11_SegStraight.l0]
      rw [if_neg h]
theorem SegStraight : Stmt.SegStraight := by
  intro l0 a1 w0 w1
  refine Ev.rounds ?_
  have ha := wf_u8 w1
  exact straight_l0 l0 (fun x hx => wf_u8 (w0.2 x hx)) w0.1 a1 ha.1 ha.2 50 0 [] (by omega) rfl (Nat.zero_le _) (fun x hx => by cases hx)
end Go.Proofs.Ytpmhkfpmadcneaa.Pure
