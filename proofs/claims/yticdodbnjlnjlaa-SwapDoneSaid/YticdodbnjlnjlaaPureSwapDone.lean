/- SwapDone: for any thread that choices make, behind Code no two side by side in one row would change places, and done again nothing changes; the numbers are of their kinds, nothing else is asked. -/
import Derived.Test.YticdodbnjlnjlaaSSwapDone
import Derived.Test.YticdodbnjlnjlaaSW4
import Derived.Test.YticdodbnjlnjlaaSC
import Derived.Test.YticdodbnjlnjlaaKN
namespace Go.Proofs.Yticdodbnjlnjlaa.Pure
set_option linter.unusedVariables false
open Go Go.RowKit Go.Proofs.Yticdodbnjlnjlaa.Th Go.Proofs.Yticdodbnjlnjlaa.P Go.Proofs.Yticdodbnjlnjlaa.Opn Go.Proofs.YticdodbnjlnjlaaW.PrintWords Go.Proofs.YticdodbnjlnjlaaW.PrintLast Go.Proofs.YticdodbnjlnjlaaW.PrintMore
theorem done_l0 (c ec : List S33) (hc : OpsOK c) (hl : c.length ≤ 60) {fr : List Int} (hR : RI c ec fr) (hno : ∀ i, 1 ≤ i → i < c.length → swB (headsK c c.length) ec i = false) : ∀ (d i : Nat), i + d = c.length → Ev (fun k => interlocklaw19_SwapDone.l0 k c ec ec i) true
  | 0, i, e => by
    have hlen := hR.len
    refine Ev.step (fun k => by simp only [interlocklaw19_SwapDone.l0]; exact rfl) (ev_pos (by omega) (ev_neg (by omega) ?_))
    exact Ev.bind known_ev (ev_pos rfl (sameCode_ev _ (by omega)))
  | d + 1, i, e => by
    have hlen := hR.len
    refine Ev.step (fun k => by simp only [interlocklaw19_SwapDone.l0]; exact rfl) (ev_pos (by omega) ?_)
    by_cases hi : i + 1 < ec.length
    · refine ev_pos hi ?_
      have ih := done_l0 c ec hc hl hR hno d (i + 1) (by omega)
      obtain ⟨a, b, ha, hb', hab⟩ := same_row c hc (by omega) i (by omega)
      refine Ev.bind ha (Ev.bind hb' ?_)
      by_cases h1 : (a : Int) = (b : Int)
      · refine ev_pos h1 ?_
        by_cases h7 : (ec.getD (i + 1) z33).f0 = 7
        · refine ev_pos h7 ?_
          by_cases h8 : (ec.getD i z33).f0 = 7
          · exact ev_pos h8 ih
          · refine ev_neg h8 ?_
            have hs := hno (i + 1) (by omega) (by omega)
            have hh : hb c (i + 1) = false := hab.1 (by omega)
            have hr : rankN (ec.getD (i + 1) z33).f0 < rankN (ec.getD i z33).f0 := by
              have h0 : rankN (ec.getD (i + 1) z33).f0 = 0 := by rw [h7]; rfl
              have h9 := (rank_range (ec.getD i z33).f0).1
              have h10 : rankN (ec.getD i z33).f0 ≠ 0 := fun e => h8 (rank_load e)
              omega
            have hap : apB (ec.getD i z33) (ec.getD (i + 1) z33) = false := by
              unfold swB at hs
              rw [Nat.add_sub_cancel, show (headsK c c.length).getD (i + 1) false = false from hh, decide_eq_true hr] at hs
              simpa using hs
            refine Ev.bind (rapart_ev _ _ (hR.ops.getD (by omega)) (hR.ops.getD hi)) ?_
            rw [hap]
            exact ev_neg (by decide) ih
        · exact ev_neg h7 ih
      · exact ev_neg h1 ih
    · exact ev_neg hi (Ev.bind known_ev (ev_pos rfl (sameCode_ev _ (by omega))))
theorem SwapDone : Stmt.SwapDone := by
  rintro l t w1 wt
  have ht := wf_u8 wt
  obtain ⟨r, hr, h1, h3, hA⟩ := make_ok l (wf_rows w1).1 (wf_rows w1).2
  refine Ev.rounds (Ev.bind hr ?_)
  obtain ⟨m, em, hm⟩ := tmod_in t (thr r).length ht (by omega)
  have hT := rd_thr (thr r) hA m hm
  have er : rd_L4 (thr r) (m : Int) = (thr r).getD m [] := by unfold rd_L4; rw [Int.toNat_natCast]
  show Ev (fun k => if ((thr r).length : Int) = 0 then none else if 0 ≤ Int.tmod (wrap64 t) ((thr r).length : Int) then (if Int.tmod (wrap64 t) ((thr r).length : Int) < ((thr r).length : Int) then (swap_Code.f k (rd_L4 (thr r) (Int.tmod (wrap64 t) ((thr r).length : Int)))).bind fun b1 => (swap_Code.f k b1.1).bind fun b2 => interlocklaw19_SwapDone.l0 k (rd_L4 (thr r) (Int.tmod (wrap64 t) ((thr r).length : Int))) b1.1 b2.1 0 else none) else none) true
  rw [em, er]
  refine ev_neg (by omega) (ev_pos (by omega) (ev_pos (by omega) ?_))
  have hlen : ((thr r).getD m []).length ≤ 60 := by have := hT.2; omega
  generalize (thr r).getD m [] = c at hT hlen
  obtain ⟨res, hR, hE⟩ := code_ev c hT.1 hlen
  obtain ⟨hI, hno⟩ := run_RI hR (RI.begin_ c hT.1)
  have hl := hI.len
  refine Ev.bind hE (Ev.bind (code_same res.1 hI.ops (by omega) (fun i a b => ?_)) ?_)
  · rw [swB_same hI (by omega)]
    exact hno i a (by omega)
  · exact done_l0 c res.1 hT.1 hlen hI hno c.length 0 (by omega)
end Go.Proofs.Yticdodbnjlnjlaa.Pure
