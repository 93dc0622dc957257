/- SwapCode: for any code, and any thread that choices make, Code is the document's; the numbers are of their kinds, nothing else is asked. -/
import Derived.Test.YticdodbnjlnjlaaSSwapCode
import Derived.Test.YticdodbnjlnjlaaSW2
import Derived.Test.YticdodbnjlnjlaaKN
namespace Go.Proofs.Yticdodbnjlnjlaa.Pure
set_option linter.unusedVariables false
open Go Go.RowKit Go.Proofs.Yticdodbnjlnjlaa.Th Go.Proofs.Yticdodbnjlnjlaa.P Go.Proofs.Yticdodbnjlnjlaa.Opn Go.Proofs.YticdodbnjlnjlaaW.PrintWords Go.Proofs.YticdodbnjlnjlaaW.PrintLast Go.Proofs.YticdodbnjlnjlaaW.PrintMore
theorem wf_code {c : List S33} (h : c.length ≤ 9223372036854775807 ∧ ∀ x ∈ c, WF33 x) : OpsOK c := fun x hx => wf_u8 (h.2 x hx).1
theorem tmod_in (a : Int) (n : Nat) (ha : 0 ≤ a ∧ a ≤ 255) (hn : 0 < n) : ∃ m : Nat, Int.tmod (wrap64 a) (n : Int) = (m : Int) ∧ m < n := by
  rw [w64 (by omega) (by omega)]
  obtain ⟨q, rfl⟩ : ∃ q : Nat, a = (q : Int) := ⟨a.toNat, by omega⟩
  exact ⟨q % n, rfl, Nat.mod_lt _ hn⟩
theorem SwapCode : Stmt.SwapCode := by
  rintro c l t w0 w1 wt
  have ht := wf_u8 wt
  have hc := wf_code w0
  refine Ev.rounds ?_
  by_cases h40 : (c.length : Int) > 40
  · refine ev_pos h40 (Ev.step (f := fun k => (interlocklaw19_known.f k).bind fun t => some t) (fun k => by simp only [interlocklaw19_SwapCode.j0]; exact if_pos trivial) (Ev.bind known_ev (Ev.now _)))
  · refine ev_neg h40 (Ev.bind known_ev (Ev.step (fun k => by simp only [interlocklaw19_SwapCode.j0]; exact if_neg (by decide)) ?_))
    obtain ⟨r, hr, h1, h3, hA⟩ := make_ok l (wf_rows w1).1 (wf_rows w1).2
    refine Ev.bind hr ?_
    have hpos : 0 < (thr r).length := by omega
    obtain ⟨m, em, hm⟩ := tmod_in t (thr r).length ht hpos
    have hT := rd_thr (thr r) hA m hm
    have er : rd_L4 (thr r) (m : Int) = (thr r).getD m [] := by unfold rd_L4; rw [Int.toNat_natCast]
    show Ev (fun k => if ((thr r).length : Int) = 0 then none else if 0 ≤ Int.tmod (wrap64 t) ((thr r).length : Int) then (if Int.tmod (wrap64 t) ((thr r).length : Int) < ((thr r).length : Int) then (swap_Code.f k c).bind fun bt388 => (interlockref19_Code.f k c).bind fun bt395 => (swap_Code.f k (rd_L4 (thr r) (Int.tmod (wrap64 t) ((thr r).length : Int)))).bind fun bt402 => (interlockref19_Code.f k (rd_L4 (thr r) (Int.tmod (wrap64 t) ((thr r).length : Int)))).bind fun bt409 => (interlockref02_SameCode.f k bt388.1 bt395.1).bind fun t416 => if t416 = true then (interlockref01_Same.f k bt388.2 bt395.2).bind fun t417 => if t417 = true then (interlockref02_SameCode.f k bt402.1 bt409.1).bind fun t418 => if t418 = true then (interlockref01_Same.f k bt402.2 bt409.2).bind fun t419 => some t419 else none else none else none else none) else none) true
    rw [em, er]
    refine ev_neg (by omega) (ev_pos (by omega) (ev_pos (by omega) ?_))
    obtain ⟨res, hR, hE⟩ := code_ev c hc (by omega)
    have hl := run_lens hR
    rw [ownL_length] at hl
    refine Ev.bind hE (Ev.bind (rcode_ev c hc (by omega) hR) ?_)
    have hlen : ((thr r).getD m []).length ≤ 60 := by have := hT.2; omega
    obtain ⟨res2, hR2, hE2⟩ := code_ev _ hT.1 hlen
    have hl2 := run_lens hR2
    rw [ownL_length] at hl2
    refine Ev.bind hE2 (Ev.bind (rcode_ev _ hT.1 hlen hR2) ?_)
    exact Ev.bind (sameCode_ev _ (by omega)) (ev_pos rfl (Ev.bind (same_ev _ (by omega)) (ev_pos rfl (Ev.bind (sameCode_ev _ (by omega)) (ev_pos rfl (Ev.bind (same_ev _ (by omega)) (Ev.now _)))))))
end Go.Proofs.Yticdodbnjlnjlaa.Pure
