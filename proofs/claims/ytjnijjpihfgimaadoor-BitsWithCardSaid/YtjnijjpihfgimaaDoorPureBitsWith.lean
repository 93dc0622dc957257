/- BitsWith: With and Without of any set and any numbers are what the reference says; the set is a uint64, the numbers are ints and bytes, nothing else is asked. -/
import Derived.Test.YtjnijjpihfgimaaDoorSBitsWith
import Derived.Test.YtjnijjpihfgimaaDoorB5
namespace Go.Proofs.YtjnijjpihfgimaaDoor.Pure
open Go Go.RowKit Go.Proofs.YtjnijjpihfgimaaDoor.P Go.Proofs.YtjnijjpihfgimaaDoor.Th Go.Proofs.YtjnijjpihfgimaaDoor.Opn Go.Proofs.YtjnijjpihfgimaaDoorW.PrintWords Go.Proofs.YtjnijjpihfgimaaDoorW.PrintLast Go.Proofs.YtjnijjpihfgimaaDoorW.PrintMore
theorem with_fin (s : Nat) (hs : s < 18446744073709551616) (l q : List Int) (hl : l.length ≤ 100) (hq : q.length ≤ 100) :
    Ev (fun k => (bits_With.f k (s : Int) l).bind fun t194 => ((interlockref01_With.f k (s : Int) l).bind fun t195 => (if t194 = t195 then ((bits_Without.f k (s : Int) l).bind fun t196 => ((interlockref01_Without.f k (s : Int) l).bind fun t197 => (if t196 = t197 then ((bits_With.f k (s : Int) q).bind fun t198 => ((interlockref01_With.f k (s : Int) q).bind fun t199 => (if t198 = t199 then ((bits_Without.f k (s : Int) q).bind fun t200 => ((interlockref01_Without.f k (s : Int) q).bind fun t201 => (some (t200 == t201)))) else (some false)))) else (some false)))) else (some false)))) true := by
  have h1 : l.length ≤ 4611686018427387904 := by omega
  have h2 : q.length ≤ 4611686018427387904 := by omega
  refine Ev.bind (with_ev l h1 s hs) (Ev.bind (rwith_ev l h1 s hs) (ev_eq rfl ?_))
  refine Ev.bind (without_ev l h1 s hs) (Ev.bind (rwithout_ev l h1 s hs) (ev_eq rfl ?_))
  refine Ev.bind (with_ev q h2 s hs) (Ev.bind (rwith_ev q h2 s hs) (ev_eq rfl ?_))
  refine Ev.bind (without_ev q h2 s hs) (Ev.bind (rwithout_ev q h2 s hs) ?_)
  rw [beq_self_eq_true]
  exact Ev.now _
theorem with_l (s : Nat) (hs : s < 18446744073709551616) (l c : List Int) (hl : l.length ≤ 100) (hc : c.length ≤ 100) : ∀ (d i : Nat) (q : List Int), i + d = c.length → q.length = i →
    Ev (fun k => interlocklaw01_BitsWith.l0 k (s : Int) l c q (i : Int)) true := by
  intro d
  induction d with
  | zero =>
    intro i q hi hq
    exact Ev.step (fun k => by simp only [interlocklaw01_BitsWith.l0]; rw [if_neg (by omega)]) (with_fin s hs l q hl (by omega))
  | succ d ih =>
    intro i q hi hq
    have E1 : Aside0 (wrap64 ((i : Int) + 1) = ((i + 1 : Nat) : Int)) := ⟨by rw [w64 (by omega) (by omega)]; rfl⟩
    exact Ev.step (fun k => by simp only [interlocklaw01_BitsWith.l0]; rw [if_pos (by omega), if_pos (by omega), if_pos (by omega), E1.out]) (ih (i + 1) _ (by omega) (by simp [hq]))
theorem BitsWith : Stmt.BitsWith := by
  intro a0 l c h0 h1 h2
  obtain ⟨s, rfl, hs⟩ := set_of h0
  refine Ev.rounds ?_
  unfold interlocklaw01_BitsWith.f
  have out : Ev (fun k => interlocklaw01_BitsWith.j0 k (s : Int) l c true) true := Ev.step (fun k => by simp only [interlocklaw01_BitsWith.j0]; rw [if_true]) (Ev.bind known_ev (Ev.now _))
  by_cases c1 : (l.length : Int) > 100
  · exact Ev.congr (fun k => if_pos c1) out
  · by_cases c2 : (c.length : Int) > 100
    · exact Ev.congr (fun k => by rw [if_neg c1, if_pos c2]) out
    · refine Ev.congr (fun k => by rw [if_neg c1, if_neg c2]) (Ev.bind known_ev ?_)
      exact Ev.step (fun k => by simp only [interlocklaw01_BitsWith.j0]; rw [if_neg (by decide)]; rfl) (with_l s hs l c (by omega) (by omega) c.length 0 [] (by omega) rfl)
end Go.Proofs.YtjnijjpihfgimaaDoor.Pure
