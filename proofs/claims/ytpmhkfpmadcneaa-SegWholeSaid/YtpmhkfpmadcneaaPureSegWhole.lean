/- SegWhole: for every choice of a program, from the beginning on, tail by tail, all places are of one row each, whose head and tail are the same for all of it; the choices are bytes, nothing else is asked. -/
import Derived.Test.YtpmhkfpmadcneaaSSegWhole
import Derived.Test.YtpmhkfpmadcneaaTh6
namespace Go.Proofs.Ytpmhkfpmadcneaa.Pure
open Go Go.RowKit Go.Proofs.Ytpmhkfpmadcneaa.P Go.Proofs.Ytpmhkfpmadcneaa.Opn Go.Proofs.Ytpmhkfpmadcneaa.Th Go.Proofs.YtpmhkfpmadcneaaW.PrintWords Go.Proofs.YtpmhkfpmadcneaaW.PrintLast Go.Proofs.YtpmhkfpmadcneaaW.PrintMore
/-- One row: each of its places has this head and this tail. -/
theorem whole_row (c : List S25) (hc : OpsOK c) (hl : c.length ≤ 11) (at_ t : Nat) (hh : hb c at_ = true) (ht : TailS c at_ t)
    (hn : Ev (fun k => interlocklaw11_SegWhole.l0 k c (t : Int)) true) : ∀ (d i : Nat), i + d = t → at_ ≤ i → Ev (fun k => interlocklaw11_SegWhole.l1 k c (at_ : Int) (t : Int) (i : Int)) true := by
  obtain ⟨t1, t2, t3, t4⟩ := ht
  intro d
  induction d with
  | zero =>
    intro i hi hai
    refine Ev.step (f := fun k => interlocklaw11_SegWhole.l0 k c (t : Int)) (fun k => ?_) hn
    simp only [interlocklaw11_SegWhole.l1]
    rw [if_neg (by omega)]
  | succ d ih =>
    intro i hi hai
    have hih := ih (i + 1) (by omega) (by omega)
    obtain ⟨h, h1, h2⟩ := head_in c hc (by omega) i (by omega)
    obtain ⟨t', h3, h4⟩ := tail_in c hc (by omega) i (by omega)
    have e1 : h = at_ := h2.one ⟨hai, hh, fun j h5 h6 => t4 j h5 (by omega)⟩
    have e2 : t' = t := h4.one ⟨by omega, t2, t3, fun j h5 h6 => t4 j (by omega) h6⟩
    subst e1 e2
    refine Ev.step (f := fun k => (seg_Head.f k c (i : Int)).bind fun a => if a = (h : Int) then ((seg_Tail.f k c (i : Int)).bind fun b => if b = (t' : Int) then interlocklaw11_SegWhole.l1 k c (h : Int) (t' : Int) (wrap64 ((i : Int) + 1)) else some false) else some false) (fun k => ?_) (Ev.bind h1 (Ev.congr (fun _ => if_pos rfl) (Ev.bind h3 (Ev.congr (fun _ => if_pos rfl) ?_))))
    · simp only [interlocklaw11_SegWhole.l1]
      rw [if_pos (by omega)]
    · rw [w64 (by omega) (by omega)]
      exact hih
theorem whole_l0 (c : List S25) (hc : OpsOK c) (hl : c.length ≤ 11) : ∀ (d at_ : Nat), c.length ≤ at_ + d → at_ ≤ c.length → (at_ < c.length → hb c at_ = true) → Ev (fun k => interlocklaw11_SegWhole.l0 k c (at_ : Int)) true := by
  have fin : ∀ at_ : Nat, c.length ≤ at_ → Ev (fun k => interlocklaw11_SegWhole.l0 k c (at_ : Int)) true := fun at_ h =>
    Ev.step (f := fun k => (interlocklaw11_known.f k).bind fun t => some t) (fun k => by simp only [interlocklaw11_SegWhole.l0]; rw [if_neg (by omega)]) (Ev.bind known_ev (Ev.now _))
  intro d
  induction d with
  | zero => intro at_ h1 _ _; exact fin at_ (by omega)
  | succ d ih =>
    intro at_ h1 h2 h3
    by_cases hlt : at_ < c.length
    · obtain ⟨t, h4, h5⟩ := tail_in c hc (by omega) at_ hlt
      obtain ⟨t1, t2, t3, t4⟩ := h5
      have hrow := whole_row c hc hl at_ t (h3 hlt) ⟨t1, t2, t3, t4⟩ (ih t (by omega) t2 t3) (t - at_) at_ (by omega) (Nat.le_refl _)
      have hj : Ev (fun k => interlocklaw11_SegWhole.j1 k c (at_ : Int) (t : Int) false) true :=
        Ev.step (f := fun k => interlocklaw11_SegWhole.l1 k c (at_ : Int) (t : Int) (at_ : Int)) (fun k => by simp only [interlocklaw11_SegWhole.j1]; rw [if_neg (by decide)]) hrow
      refine Ev.step (f := fun k => (seg_Tail.f k c (at_ : Int)).bind fun t262 => (if t262 ≤ (at_ : Int) then (interlocklaw11_SegWhole.j1 k c (at_ : Int) t262 true) else (interlocklaw11_SegWhole.j1 k c (at_ : Int) t262 (decide (t262 > (c.length : Int)))))) (fun k => ?_) (Ev.bind h4 (Ev.congr (fun _ => if_neg (by omega)) ?_))
      · simp only [interlocklaw11_SegWhole.l0]
        rw [if_pos (by omega)]
      · rw [decide_eq_false (by omega)]
        exact hj
    · exact fin at_ (by omega)
theorem SegWhole : Stmt.SegWhole := by
  intro l0 w0
  refine Ev.rounds ?_
  obtain ⟨r, hr, h1, h3, hA⟩ := make_ok l0 (wf_rows w0).1 (wf_rows w0).2
  have hT := rd_thr (thr r) hA 0 (by omega)
  refine Ev.congr (f := fun k => (interlocklaw02_Make.f k l0).bind fun bt => if 0 < ((thr bt).length : Int) then (interlocklaw11_SegWhole.l0 k (rd_L4 (thr bt) 0) 0) else none) (fun k => rfl) (Ev.bind hr (Ev.congr (fun _ => if_pos (by omega)) ?_))
  exact whole_l0 _ hT.1 hT.2 _ 0 (Nat.le_of_eq (Nat.zero_add _).symm) (Nat.zero_le _) (fun h => (hb_iff _ hT.1 0 h).2 (.inl rfl))
end Go.Proofs.Ytpmhkfpmadcneaa.Pure
