/- SwapMoves: for any thread that choices make, behind Code are the same instructions, each once, each in its row, and none is ahead of one that it is not apart from and that stood ahead of it; the numbers are of their kinds, nothing else is asked. -/
import Derived.Test.YticdodbnjlnjlaaSSwapMoves
import Derived.Test.YticdodbnjlnjlaaSW4
import Derived.Test.YticdodbnjlnjlaaKN
namespace Go.Proofs.Yticdodbnjlnjlaa.Pure
set_option linter.unusedVariables false
open Go Go.RowKit Go.Proofs.Yticdodbnjlnjlaa.Th Go.Proofs.Yticdodbnjlnjlaa.P Go.Proofs.Yticdodbnjlnjlaa.Opn Go.Proofs.YticdodbnjlnjlaaW.PrintWords Go.Proofs.YticdodbnjlnjlaaW.PrintLast Go.Proofs.YticdodbnjlnjlaaW.PrintMore
theorem moves_l1 (c ec : List S33) (hc : OpsOK c) (hl : c.length ≤ 60) {fr : List Int} (hR : RI c ec fr) (sn : List Int) (i : Nat) (hi : i < c.length) (hnext : Ev (fun k => interlocklaw19_SwapMoves.l0 k c ec fr sn (i + 1)) true) : ∀ (d j : Nat), j + d = i → Ev (fun k => interlocklaw19_SwapMoves.l1 k c ec fr sn i j) true
  | 0, j, e => Ev.step (fun k => by simp only [interlocklaw19_SwapMoves.l1]; exact rfl) (ev_neg (by omega) hnext)
  | d + 1, j, e => by
    have ih := moves_l1 c ec hc hl hR sn i hi hnext d (j + 1) (by omega)
    refine Ev.step (fun k => by simp only [interlocklaw19_SwapMoves.l1]; exact rfl) (ev_pos (by omega) ?_)
    by_cases h : fr.getD i 0 < fr.getD j 0
    · have r1 := hR.rng i hi
      have r2 := hR.rng j (by omega)
      refine ev_pos h (ev_pos r2.2 ?_)
      refine Ev.bind (rapart_ev _ _ (hc.getD (by omega)) (hc.getD (by omega))) ?_
      rw [hR.ord i j (by omega) hi h]
      exact ev_pos rfl ih
    · exact ev_neg h ih
/-- What has been marked: where the instructions ahead are from. -/
def Marked (n : Nat) (fr sn : List Int) (i : Nat) : Prop := sn.length = n ∧ ∀ y : Nat, y < n → (sn.getD y 0 = 1 ↔ ∃ j, j < i ∧ fr.getD j 0 = (y : Int))
theorem getD_setI (l : List Int) (a j : Nat) (v : Int) : (l.set a v).getD j 0 = if a = j ∧ j < l.length then v else l.getD j 0 := by
  simp only [List.getD_eq_getElem?_getD, List.getElem?_set]
  by_cases h : a = j
  · subst h
    by_cases h2 : a < l.length
    · simp [h2]
    · simp [h2]
  · simp [h]
theorem moves_l0 (c ec : List S33) (hc : OpsOK c) (hl : c.length ≤ 60) {fr : List Int} (hR : RI c ec fr) : ∀ (d i : Nat) (sn : List Int), i + d = c.length → Marked c.length fr sn i → Ev (fun k => interlocklaw19_SwapMoves.l0 k c ec fr sn i) true
  | 0, i, sn, e, _ => Ev.step (fun k => by simp only [interlocklaw19_SwapMoves.l0]; exact rfl) (ev_neg (by omega) (Ev.bind known_ev (Ev.now _)))
  | d + 1, i, sn, e, hM => by
    have hi : i < c.length := by omega
    obtain ⟨r1, r2⟩ := hR.rng i hi
    obtain ⟨y, hy⟩ : ∃ y : Nat, fr.getD i 0 = (y : Int) := ⟨(fr.getD i 0).toNat, by omega⟩
    have hyn : y < c.length := by omega
    have hnew : ¬ sn.getD (fr.getD i 0).toNat 0 = 1 := by
      rw [hy, Int.toNat_natCast, hM.2 y hyn]
      rintro ⟨j, hj, h⟩
      have := hR.inj j i (by omega) hi (by rw [h, hy])
      omega
    have hM2 : Marked c.length fr (sn.set (fr.getD i 0).toNat 1) (i + 1) := by
      refine ⟨(List.length_set ..).trans hM.1, fun q hq => ?_⟩
      rw [hy, Int.toNat_natCast, getD_setI]
      by_cases e1 : y = q
      · subst e1
        rw [if_pos ⟨rfl, (by rw [hM.1]; exact hq)⟩]
        exact ⟨fun _ => ⟨i, by omega, hy⟩, fun _ => rfl⟩
      · rw [if_neg (fun h => e1 h.1), hM.2 q hq]
        constructor
        · rintro ⟨j, hj, h⟩; exact ⟨j, by omega, h⟩
        · rintro ⟨j, hj, h⟩
          by_cases e2 : j = i
          · subst e2; rw [hy] at h; omega
          · exact ⟨j, by omega, h⟩
    obtain ⟨a, ha, h1⟩ := rHead_in c hc (by omega) i hi
    have h2 := hR.row i a hi h1
    obtain ⟨b, hb', h3⟩ := rHead_in c hc (by omega) y hyn
    rw [hy, Int.toNat_natCast] at h2
    have eab : a = b := h2.one h3
    subst eab
    have hnext := moves_l0 c ec hc hl hR d (i + 1) _ (by omega) hM2
    have hb2 : Ev (fun k => interlockref11_Head.f k c (fr.getD i 0)) (a : Int) := by rw [hy]; exact hb'
    refine Ev.step (fun k => by simp only [interlocklaw19_SwapMoves.l0]; exact rfl) (ev_pos hi (ev_pos r1 (ev_pos r2 (ev_neg hnew (ev_pos ?_ (Ev.bind ha (Ev.bind hb2 (ev_pos rfl (moves_l1 c ec hc hl hR _ i hi hnext i 0 (by omega))))))))))
    · rw [hR.eq i hi]; exact ⟨rfl, rfl, rfl, rfl⟩
theorem SwapMoves : Stmt.SwapMoves := by
  rintro l t w1 wt
  have ht := wf_u8 wt
  obtain ⟨r, hr, h1, h3, hA⟩ := make_ok l (wf_rows w1).1 (wf_rows w1).2
  refine Ev.rounds (Ev.bind hr ?_)
  obtain ⟨m, em, hm⟩ := tmod_in t (thr r).length ht (by omega)
  have hT := rd_thr (thr r) hA m hm
  have er : rd_L4 (thr r) (m : Int) = (thr r).getD m [] := by unfold rd_L4; rw [Int.toNat_natCast]
  show Ev (fun k => if ((thr r).length : Int) = 0 then none else if 0 ≤ Int.tmod (wrap64 t) ((thr r).length : Int) then (if Int.tmod (wrap64 t) ((thr r).length : Int) < ((thr r).length : Int) then (swap_Code.f k (rd_L4 (thr r) (Int.tmod (wrap64 t) ((thr r).length : Int)))).bind fun b1 => interlocklaw19_SwapMoves.g k (rd_L4 (thr r) (Int.tmod (wrap64 t) ((thr r).length : Int))) b1.1 b1.2 else none) else none) true
  rw [em, er]
  refine ev_neg (by omega) (ev_pos (by omega) (ev_pos (by omega) ?_))
  have hlen : ((thr r).getD m []).length ≤ 60 := by have := hT.2; omega
  generalize (thr r).getD m [] = c at hT hlen
  obtain ⟨res, hR, hE⟩ := code_ev c hT.1 hlen
  obtain ⟨hI, hno⟩ := run_RI hR (RI.begin_ c hT.1)
  refine Ev.bind hE (ev_pos hI.len (ev_pos hI.lf (ev_pos (by omega) ?_)))
  refine moves_l0 c res.1 hT.1 hlen hI c.length 0 _ (by omega) ⟨by simp, fun y hy => ?_⟩
  rw [List.getD_eq_getElem?_getD, List.getElem?_replicate, if_pos hy]
  exact ⟨(fun h => by cases h), fun ⟨j, hj, _⟩ => by omega⟩
end Go.Proofs.Yticdodbnjlnjlaa.Pure
