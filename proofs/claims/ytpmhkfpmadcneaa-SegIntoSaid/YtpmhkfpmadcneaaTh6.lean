import Derived.Test.YtpmhkfpmadcneaaTh5
import Derived.Test.YtpmhkfpmadcneaaPx7
namespace Go.Proofs.Ytpmhkfpmadcneaa.Th
open Go Go.RowKit Go.Proofs.Ytpmhkfpmadcneaa.P Go.Proofs.Ytpmhkfpmadcneaa.Opn Go.Proofs.YtpmhkfpmadcneaaW.PrintWords Go.Proofs.YtpmhkfpmadcneaaW.PrintLast Go.Proofs.YtpmhkfpmadcneaaW.PrintMore
theorem wf_u8 {x : Int} (h : (Lit.int .u8 x).wf = true) : 0 ≤ x ∧ x ≤ 255 := by
  have m1 : IntKind.u8.min = 0 := rfl
  have m2 : IntKind.u8.max = 255 := rfl
  simp [Lit.wf, m1, m2] at h
  exact ⟨by omega, by omega⟩
theorem wf_code {c : List S25} (h : c.length ≤ 9223372036854775807 ∧ ∀ x ∈ c, WF25 x) : OpsOK c := fun x hx => wf_u8 (h.2 x hx).1
theorem both_head (c : List S25) (hc : OpsOK c) (hl : c.length ≤ 140737488355327) (i : Int) : ∃ h : Int, Ev (fun k => seg_Head.f k c i) h ∧ Ev (fun k => interlockref11_Head.f k c i) h := by
  by_cases hi : i < 0 ∨ (c.length : Int) ≤ i
  · exact ⟨i, head_out c i hi, rHead_out c i hi⟩
  · obtain ⟨n, rfl⟩ := Int.eq_ofNat_of_zero_le (show 0 ≤ i by omega)
    obtain ⟨h, h1, h2⟩ := head_in c hc (by omega) n (by omega)
    obtain ⟨h', h3, h4⟩ := rHead_in c hc (by omega) n (by omega)
    exact ⟨h, h1, by rw [h2.one h4]; exact h3⟩
theorem both_tail (c : List S25) (hc : OpsOK c) (hl : c.length ≤ 140737488355327) (i : Int) : ∃ h : Int, Ev (fun k => seg_Tail.f k c i) h ∧ Ev (fun k => interlockref11_Tail.f k c i) h := by
  by_cases hi : i < 0 ∨ (c.length : Int) ≤ i
  · exact ⟨i, tail_out c i hi, rTail_out c i hi⟩
  · obtain ⟨n, rfl⟩ := Int.eq_ofNat_of_zero_le (show 0 ≤ i by omega)
    obtain ⟨h, h1, h2⟩ := tail_in c hc (by omega) n (by omega)
    obtain ⟨h', h3, h4⟩ := rTail_in c hc (by omega) n (by omega)
    exact ⟨h, h1, by rw [h2.one h4]; exact h3⟩
theorem tells_l0 (c : List S25) (hc : OpsOK c) (hl : c.length ≤ 140737488355327) : ∀ (d i : Nat), i + d = c.length → Ev (fun k => interlocklaw11_tells.l0 k c (headsK c c.length) (headsK c c.length) (i : Int)) true := by
  have hlen := headsK_length c c.length
  intro d
  induction d with
  | zero =>
    intro i hi
    refine Ev.step (fun k => ?_) (Ev.now _)
    simp only [interlocklaw11_tells.l0]
    rw [if_neg (by omega)]
  | succ d ih =>
    intro i hi
    obtain ⟨h, h1, h2⟩ := both_head c hc hl (i : Int)
    obtain ⟨t, h3, h4⟩ := both_tail c hc hl (i : Int)
    have hih := ih (i + 1) (by omega)
    refine Ev.step (f := fun k => (seg_Head.f k c (i : Int)).bind fun a => (interlockref11_Head.f k c (i : Int)).bind fun b => if a = b then ((seg_Tail.f k c (i : Int)).bind fun p => (interlockref11_Tail.f k c (i : Int)).bind fun q => if p = q then interlocklaw11_tells.l0 k c (headsK c c.length) (headsK c c.length) (wrap64 ((i : Int) + 1)) else some false) else some false) (fun k => ?_) (Ev.bind h1 (Ev.bind h2 (Ev.congr (fun _ => if_pos rfl) (Ev.bind h3 (Ev.bind h4 (Ev.congr (fun _ => if_pos rfl) ?_))))))
    · simp only [interlocklaw11_tells.l0]
      rw [if_pos (by omega), if_pos (by omega), if_pos (by omega), if_neg (by simp)]
    · rw [w64 (by omega) (by omega)]
      exact hih
theorem tells_ev (c : List S25) (hc : OpsOK c) (hl : c.length ≤ 140737488355327) (i : Int) : Ev (fun k => interlocklaw11_tells.f k c i) true := by
  obtain ⟨h, h1, h2⟩ := both_head c hc hl i
  obtain ⟨t, h3, h4⟩ := both_tail c hc hl i
  have h5 : Ev (fun k => interlocklaw11_tells.j0 k c (headsK c c.length) (headsK c c.length) false) true :=
    Ev.step (f := fun k => interlocklaw11_tells.l0 k c (headsK c c.length) (headsK c c.length) 0) (fun k => by simp only [interlocklaw11_tells.j0]; rw [if_neg (by decide)]) (tells_l0 c hc hl c.length 0 (by omega))
  have h0 : Ev (fun _ : Nat => seg_Heads.f c) (headsK c c.length) := by rw [heads_f c hc (by omega)]; exact Ev.now _
  refine Ev.congr (f := fun k => (seg_Heads.f c).bind fun t217 => ((interlockref11_Heads.f k c).bind fun t220 => (if (t217.length : Int) = (t220.length : Int) then ((seg_Head.f k c i).bind fun t223 => ((interlockref11_Head.f k c i).bind fun t224 => (if t223 = t224 then ((seg_Tail.f k c i).bind fun t225 => ((interlockref11_Tail.f k c i).bind fun t226 => (interlocklaw11_tells.j0 k c t217 t220 (t225 != t226)))) else (interlocklaw11_tells.j0 k c t217 t220 true)))) else (interlocklaw11_tells.j0 k c t217 t220 true)))) (fun k => rfl)
    (Ev.bind h0 (Ev.bind (rheads_ev c hc hl) (Ev.congr (fun _ => if_pos rfl) (Ev.bind h1 (Ev.bind h2 (Ev.congr (fun _ => if_pos rfl) (Ev.bind h3 (Ev.bind h4 ?_))))))))
  have : (t != t) = false := by simp
  rw [this]
  exact h5
end Go.Proofs.Ytpmhkfpmadcneaa.Th
