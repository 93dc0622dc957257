/- BitsTwo: what is put in one by one is what is put in at once, in any order; the set is a uint64, the numbers are bytes, nothing else is asked. -/
import Derived.Test.YtjnijjpihfgimaaDoorSBitsTwo
import Derived.Test.YtjnijjpihfgimaaDoorB5
namespace Go.Proofs.YtjnijjpihfgimaaDoor.Pure
open Go Go.RowKit Go.Proofs.YtjnijjpihfgimaaDoor.P Go.Proofs.YtjnijjpihfgimaaDoor.Th Go.Proofs.YtjnijjpihfgimaaDoor.Opn Go.Proofs.YtjnijjpihfgimaaDoorW.PrintWords Go.Proofs.YtjnijjpihfgimaaDoorW.PrintLast Go.Proofs.YtjnijjpihfgimaaDoorW.PrintMore
def m64 (x : Int) : Int := wrap64 (Int.tmod x 64)
theorem withN_app (s : Nat) (l q : List Int) : withN s (l ++ q) = withN (withN s l) q := List.foldl_append ..
theorem two_l (s : Nat) (hs : s < 18446744073709551616) (l : List Int) (hl : l.length ≤ 100) : ∀ (d i : Nat) (p q : List Int), i + d = l.length → p = (l.take i).map m64 → q = (l.reverse.take i).map m64 →
    Ev (fun k => interlocklaw01_BitsTwo.l0 k (s : Int) l p q (withN s p : Int) (i : Int)) true := by
  intro d
  induction d with
  | zero =>
    intro i p q hi hp hq
    rw [List.take_of_length_le (by omega)] at hp
    rw [List.take_of_length_le (by simp; omega)] at hq
    have h1 : p.length ≤ 4611686018427387904 := by rw [hp, List.length_map]; omega
    have h2 : q.length ≤ 4611686018427387904 := by rw [hq, List.length_map, List.length_reverse]; omega
    have hx := with_lt p s hs
    have hr : withN s q = withN s p := set_ext' (with_lt _ _ hs) hx (fun j hj => by
      rw [with_bit _ _ _ hj, with_bit _ _ _ hj]
      congr 1
      rw [Bool.eq_iff_iff, List.contains_iff_mem, List.contains_iff_mem, hp, hq]
      simp)
    have hw : withoutN (withN s p) p = withoutN s p := set_ext' (without_lt _ _ hx) (without_lt _ _ hs) (fun j hj => by
      rw [without_bit _ _ _ hx hj, without_bit _ _ _ hs hj, with_bit _ _ _ hj]
      cases s.testBit j <;> cases p.contains (j : Int) <;> rfl)
    refine Ev.step (fun k => by simp only [interlocklaw01_BitsTwo.l0]; rw [if_neg (by omega)]) ?_
    refine Ev.bind (with_ev p h1 s hs) (ev_eq rfl (Ev.bind (with_ev q h2 s hs) (ev_eq (by rw [hr]) (Ev.bind (without_ev p h1 _ hx) (Ev.bind (without_ev p h1 s hs) ?_)))))
    rw [hw, beq_self_eq_true]
    exact Ev.now _
  | succ d ih =>
    intro i p q hi hp hq
    have hlt : i < l.length := by omega
    have hpl : p.length = i := by rw [hp, List.length_map, List.length_take]; omega
    have hql : q.length = i := by rw [hq, List.length_map, List.length_take, List.length_reverse]; omega
    have E1 : Aside0 (wrap64 ((i : Int) + 1) = ((i + 1 : Nat) : Int)) := ⟨by rw [w64 (by omega) (by omega)]; rfl⟩
    have E2 : Aside0 (wrap64 ((wrap64 ((l.length : Int) - 1)) - (i : Int)) = ((l.length - 1 - i : Nat) : Int)) := ⟨by rw [w64 (x := (l.length : Int) - 1) (by omega) (by omega), w64 (by omega) (by omega)]; omega⟩
    have hp2 : p ++ [m64 (l.getD i 0)] = (l.take (i + 1)).map m64 := by
      rw [hp, List.take_succ_eq_append_getElem hlt, List.map_append, List.getD_eq_getElem?_getD, List.getElem?_eq_getElem hlt]; rfl
    have hq2 : q ++ [m64 (l.getD (l.length - 1 - i) 0)] = (l.reverse.take (i + 1)).map m64 := by
      have hlt2 : i < l.reverse.length := by simp; omega
      rw [hq, List.take_succ_eq_append_getElem hlt2, List.map_append, List.getElem_reverse, List.getD_eq_getElem?_getD, List.getElem?_eq_getElem (by omega)]; rfl
    have h := ih (i + 1) _ _ (by omega) hp2 hq2
    rw [withN_app] at h
    have hx := with_lt p s hs
    have wx := with_ev [m64 (l.getD i 0)] (by simp) _ hx
    refine Ev.step (fun k => by simp only [interlocklaw01_BitsTwo.l0]; rw [if_pos (by omega), if_pos (by omega), if_pos (by omega), E2.out, if_pos (by omega), if_pos (by omega), if_pos (by omega), rd_nat, rd_nat, E1.out]) ?_
    exact Ev.bind wx h
theorem BitsTwo : Stmt.BitsTwo := by
  intro a0 l h0 h1
  obtain ⟨s, rfl, hs⟩ := set_of h0
  refine Ev.rounds ?_
  unfold interlocklaw01_BitsTwo.f
  by_cases c1 : (l.length : Int) > 100
  · exact Ev.congr (fun k => if_pos c1) (Ev.step (fun k => by simp only [interlocklaw01_BitsTwo.j0]; rw [if_true]) (Ev.bind known_ev (Ev.now _)))
  · refine Ev.congr (fun k => if_neg c1) (Ev.bind known_ev ?_)
    exact Ev.step (fun k => by simp only [interlocklaw01_BitsTwo.j0]; rw [if_neg (by decide)]; rfl) (two_l s hs l (by omega) l.length 0 [] [] (by omega) rfl rfl)
end Go.Proofs.YtjnijjpihfgimaaDoor.Pure
