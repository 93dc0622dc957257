/- SegTells: for every code and every choice of a program, Heads, Head and Tail are the document's; the code's numbers are of their kinds, nothing else is asked. -/
import Derived.Test.YtpmhkfpmadcneaaSSegTells
import Derived.Test.YtpmhkfpmadcneaaTh6
namespace Go.Proofs.Ytpmhkfpmadcneaa.Pure
open Go Go.RowKit Go.Proofs.Ytpmhkfpmadcneaa.P Go.Proofs.Ytpmhkfpmadcneaa.Opn Go.Proofs.Ytpmhkfpmadcneaa.Th Go.Proofs.YtpmhkfpmadcneaaW.PrintWords Go.Proofs.YtpmhkfpmadcneaaW.PrintLast Go.Proofs.YtpmhkfpmadcneaaW.PrintMore
theorem SegTells : Stmt.SegTells := by
  intro l0 l1 a2 w0 w1 _
  refine Ev.rounds ?_
  unfold interlocklaw11_SegTells.f
  by_cases h60 : (l0.length : Int) > 60
  · refine Ev.congr (fun k => if_pos h60) ?_
    refine Ev.step (f := fun k => (interlocklaw11_known.f k).bind fun t => some t) (fun k => by simp only [interlocklaw11_SegTells.j0]; rw [if_pos (by decide)]) (Ev.bind known_ev (Ev.now _))
  · refine Ev.congr (fun k => if_neg h60) (Ev.bind known_ev ?_)
    obtain ⟨r, hr, h1, h3, hA⟩ := make_ok l1 (wf_rows w1).1 (wf_rows w1).2
    have hT := rd_thr (thr r) hA 0 (by omega)
    have h5 : Ev (fun k => interlocklaw11_SegTells.j0 k l0 l1 a2 false) true := by
      refine Ev.step (f := fun k => (interlocklaw02_Make.f k l1).bind fun bt235 => if 0 < ((thr bt235).length : Int) then ((interlocklaw11_tells.f k l0 a2).bind fun t247 => if t247 = true then ((interlocklaw11_tells.f k (rd_L4 (thr bt235) 0) a2).bind fun t248 => some t248) else some false) else none) (fun k => by simp only [interlocklaw11_SegTells.j0]; rw [if_neg (by decide)]; rfl) (Ev.bind hr (Ev.congr (fun _ => if_pos (by omega)) (Ev.bind (tells_ev l0 (wf_code w0) (by omega) a2) (Ev.congr (fun _ => if_pos rfl) (Ev.bind (tells_ev _ hT.1 (by have := hT.2; show (_ : Nat) ≤ _; exact Nat.le_trans this (by omega)) a2) (Ev.now _))))))
    exact h5
end Go.Proofs.Ytpmhkfpmadcneaa.Pure
