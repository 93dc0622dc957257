/- SegInto: for every choice of a program and of a thread, no way leads into a row but at its head, and what is not plain is alone; the choices are bytes, nothing else is asked. -/
import Derived.Test.YtpmhkfpmadcneaaSSegInto
import Derived.Test.YtpmhkfpmadcneaaTh6
namespace Go.Proofs.Ytpmhkfpmadcneaa.Pure
open Go Go.RowKit Go.Proofs.Ytpmhkfpmadcneaa.P Go.Proofs.Ytpmhkfpmadcneaa.Opn Go.Proofs.Ytpmhkfpmadcneaa.Th Go.Proofs.YtpmhkfpmadcneaaW.PrintWords Go.Proofs.YtpmhkfpmadcneaaW.PrintLast Go.Proofs.YtpmhkfpmadcneaaW.PrintMore
theorem head_of_hb (c : List S25) (hc : OpsOK c) (hl : c.length ≤ 11) (i : Nat) (hi : i < c.length) (h : hb c i = true) : Ev (fun k => seg_Head.f k c (i : Int)) (i : Int) := by
  obtain ⟨q, h1, h2⟩ := head_in c hc (by omega) i hi
  rw [h2.one ⟨Nat.le_refl _, h, fun j h3 h4 => by omega⟩] at h1
  exact h1
theorem into_l0 (c : List S25) (hc : OpsOK c) (hl : c.length ≤ 11) : ∀ (d i : Nat), i + d = c.length → Ev (fun k => interlocklaw11_SegInto.l0 k c (i : Int)) true := by
  intro d
  induction d with
  | zero =>
    intro i hi
    exact Ev.step (f := fun k => (interlocklaw11_known.f k).bind fun t => some t) (fun k => by simp only [interlocklaw11_SegInto.l0]; rw [if_neg (by omega)]) (Ev.bind known_ev (Ev.now _))
  | succ d ih =>
    intro i hi
    have hih := ih (i + 1) (by omega)
    have hop := hc.at_ (i := i) (by omega)
    have E1 : Aside0 (wrap64 ((i : Int) + 1) = ((i + 1 : Nat) : Int)) := ⟨by rw [w64 (by omega) (by omega)]; rfl⟩
    have h3 : Ev (fun k => interlocklaw11_SegInto.j3 k c (i : Int) false) true := by
      by_cases hp : (rd_T25 c i).f0 ≤ 8
      · refine Ev.step (f := fun k => interlocklaw11_SegInto.l0 k c ((i + 1 : Nat) : Int)) (fun k => ?_) hih
        simp only [interlocklaw11_SegInto.j3]
        unfold interlockref02_Plain.f
        rw [if_neg (by decide), if_pos (by omega), if_pos (by omega), Option.bind_some, decide_eq_true hp, if_pos rfl, E1.out]
      · have hh := head_of_hb c hc hl i (by omega) ((hb_iff c hc i (by omega)).2 (.inr (.inl hp)))
        obtain ⟨t, h4, h5⟩ := tail_in c hc (by omega) i (by omega)
        have e : t = i + 1 := h5.one ⟨by omega, by omega, fun h => (hb_iff c hc (i + 1) h).2 (.inr (.inr (.inl (by rw [Nat.add_sub_cancel]; exact hp)))), fun j h6 h7 => by omega⟩
        subst e
        refine Ev.step (f := fun k => (seg_Head.f k c (i : Int)).bind fun a => if a = (i : Int) then ((seg_Tail.f k c (i : Int)).bind fun b => if b = ((i + 1 : Nat) : Int) then interlocklaw11_SegInto.l0 k c ((i + 1 : Nat) : Int) else some false) else some false) (fun k => ?_) (Ev.bind hh (Ev.congr (fun _ => if_pos rfl) (Ev.bind h4 (Ev.congr (fun _ => if_pos rfl) hih))))
        simp only [interlocklaw11_SegInto.j3]
        unfold interlockref02_Plain.f
        rw [if_neg (by decide), if_pos (by omega), if_pos (by omega), Option.bind_some, decide_eq_false hp, if_neg (by decide), E1.out]
    have h2 : ∀ tq : Int, (0 ≤ tq → tq < (c.length : Int) → hb c tq.toNat = true) → Ev (fun k => interlocklaw11_SegInto.j2 k c (i : Int) tq) true := by
      intro tq hto
      refine Ev.step (fun k => by simp only [interlocklaw11_SegInto.j2]; rfl) ?_
      by_cases h4 : tq ≥ 0
      · refine Ev.congr (fun k => if_pos h4) ?_
        by_cases h5 : tq < (c.length : Int)
        · refine Ev.congr (fun k => if_pos h5) ?_
          obtain ⟨n, rfl⟩ := Int.eq_ofNat_of_zero_le h4
          refine Ev.bind (head_of_hb c hc hl n (by omega) (hto h4 h5)) ?_
          have : ((n : Int) != (n : Int)) = false := by simp
          rw [this]; exact h3
        · exact Ev.congr (fun k => if_neg h5) h3
      · exact Ev.congr (fun k => if_neg h4) h3
    have lead : ∀ tq : Int, 0 ≤ tq → tq < (c.length : Int) → (∀ n : Nat, tq = n → Leads (rd_T25 c i) n) → hb c tq.toNat = true := by
      intro tq h4 h5 h6
      obtain ⟨n, rfl⟩ := Int.eq_ofNat_of_zero_le h4
      rw [Int.toNat_natCast]
      exact (hb_iff c hc n (by omega)).2 (.inr (.inr (.inr ⟨i, by omega, h6 n rfl⟩)))
    have h1 : ∀ tq : Int, (0 ≤ tq → tq < (c.length : Int) → hb c tq.toNat = true) → Ev (fun k => interlocklaw11_SegInto.j1 k c (i : Int) tq) true := by
      intro tq hto
      refine Ev.step (fun k => by simp only [interlocklaw11_SegInto.j1]; rfl) ?_
      refine Ev.congr (fun k => if_pos (by omega)) (Ev.congr (fun k => if_pos (by omega)) ?_)
      by_cases h4 : (rd_T25 c i).f0 = 11
      · refine Ev.congr (fun k => if_pos h4) (h2 _ (fun h5 h6 => lead _ h5 h6 (fun n e => .inr ⟨h4, e⟩)))
      · exact Ev.congr (fun k => if_neg h4) (h2 _ hto)
    refine Ev.step (fun k => by simp only [interlocklaw11_SegInto.l0]; rfl) ?_
    refine Ev.congr (fun k => if_pos (by omega)) (Ev.congr (fun k => if_pos (by omega)) ?_)
    by_cases h4 : (rd_T25 c i).f0 = 10
    · exact Ev.congr (fun k => if_pos h4) (h1 _ (fun h5 h6 => lead _ h5 h6 (fun n e => .inl ⟨h4, e⟩)))
    · exact Ev.congr (fun k => if_neg h4) (h1 _ (fun h5 _ => by omega))
theorem SegInto : Stmt.SegInto := by
  intro l0 a1 w0 w1
  refine Ev.rounds ?_
  obtain ⟨r, hr, h1, h3, hA⟩ := make_ok l0 (wf_rows w0).1 (wf_rows w0).2
  have ha := wf_u8 w1
  have hq : 0 ≤ Int.tmod (wrap64 a1) ((thr r).length : Int) ∧ Int.tmod (wrap64 a1) ((thr r).length : Int) < ((thr r).length : Int) := by
    rw [w64 (by omega) (by omega), Int.tmod_eq_emod_of_nonneg ha.1]
    exact ⟨Int.emod_nonneg _ (by omega), Int.emod_lt_of_pos _ (by omega)⟩
  refine Ev.congr (f := fun k => (interlocklaw02_Make.f k l0).bind fun bt => if ((thr bt).length : Int) = 0 then none else if 0 ≤ Int.tmod (wrap64 a1) ((thr bt).length : Int) then (if Int.tmod (wrap64 a1) ((thr bt).length : Int) < ((thr bt).length : Int) then (interlocklaw11_SegInto.l0 k (rd_L4 (thr bt) (Int.tmod (wrap64 a1) ((thr bt).length : Int))) 0) else none) else none) (fun k => rfl) (Ev.bind hr (Ev.congr (fun _ => if_neg (by omega)) (Ev.congr (fun _ => if_pos hq.1) (Ev.congr (fun _ => if_pos hq.2) ?_))))
  have hT := rd_thr (thr r) hA (Int.tmod (wrap64 a1) ((thr r).length : Int)).toNat (by omega)
  exact into_l0 _ hT.1 hT.2 _ 0 (Nat.zero_add _)
end Go.Proofs.Ytpmhkfpmadcneaa.Pure
