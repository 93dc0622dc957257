/- BitsOne: what is put in is in, what is taken out is out, nothing else changes; the set is a uint64, the two numbers are bytes, nothing else is asked. -/
import Derived.Test.YtjnijjpihfgimaaDoorSBitsOne
import Derived.Test.YtjnijjpihfgimaaDoorB5
namespace Go.Proofs.YtjnijjpihfgimaaDoor.Pure
open Go Go.RowKit Go.Proofs.YtjnijjpihfgimaaDoor.P Go.Proofs.YtjnijjpihfgimaaDoor.Th Go.Proofs.YtjnijjpihfgimaaDoor.Opn Go.Proofs.YtjnijjpihfgimaaDoorW.PrintWords Go.Proofs.YtjnijjpihfgimaaDoorW.PrintLast Go.Proofs.YtjnijjpihfgimaaDoorW.PrintMore
theorem BitsOne : Stmt.BitsOne := by
  intro a0 a1 a2 h0 h1 h2
  obtain ⟨s, rfl, hs⟩ := set_of h0
  obtain ⟨a, rfl, ha⟩ := byte_of h1
  obtain ⟨b, rfl, hb⟩ := byte_of h2
  refine Ev.rounds ?_
  unfold interlocklaw01_BitsOne.f
  rw [mod64, mod64]
  have ha' := Nat.mod_lt a (show 0 < 64 by decide)
  have hb' := Nat.mod_lt b (show 0 < 64 by decide)
  generalize a % 64 = i at ha' ⊢
  generalize b % 64 = j at hb' ⊢
  have hx : withN s [(i : Int)] < 18446744073709551616 := with_lt _ _ hs
  have hy : withoutN s [(i : Int)] < 18446744073709551616 := without_lt _ _ hs
  have bx : ∀ q, q < 64 → (withN s [(i : Int)]).testBit q = (s.testBit q || decide (q = i)) := fun q hq => by
    rw [with_bit _ _ _ hq]; congr 1; rw [Bool.eq_iff_iff]; simp; omega
  have by_ : ∀ q, q < 64 → (withoutN s [(i : Int)]).testBit q = (s.testBit q && !decide (q = i)) := fun q hq => by
    rw [without_bit _ _ _ hs hq]; congr 2; rw [Bool.eq_iff_iff]; simp; omega
  have back : withN (withoutN s [(i : Int)]) [(i : Int)] = withN s [(i : Int)] := set_ext' (with_lt _ _ hy) hx (fun q hq => by
    rw [bx q hq, with_bit _ _ _ hq, by_ q hq]
    have e : [(i : Int)].contains (q : Int) = decide (q = i) := by rw [Bool.eq_iff_iff]; simp; omega
    rw [e]; cases s.testBit q <;> cases decide (q = i) <;> rfl)
  generalize hX : withN s [(i : Int)] = x at hx bx back
  generalize hY : withoutN s [(i : Int)] = y at hy by_ back
  have wx := with_ev [(i : Int)] (by simp) s hs
  have wy := without_ev [(i : Int)] (by simp) s hs
  have wb := with_ev [(i : Int)] (by simp) y hy
  rw [hX] at wx
  rw [hY] at wy
  rw [back] at wb
  have last : Ev (fun k => (bits_With.f k (y : Int) [(i : Int)]).bind fun t => some (t == (x : Int))) true := Ev.bind wb (by rw [beq_self_eq_true]; exact Ev.now _)
  refine Ev.bind wx (Ev.bind wy (Ev.bind known_ev (ev_if rfl ?_)))
  refine Ev.congr (fun k => by rw [has_f _ hx, Option.bind_some]) (ev_if (by rw [decide_eq_true (by omega), Int.toNat_natCast, bx i ha', decide_eq_true rfl, Bool.or_true]; rfl) ?_)
  refine Ev.congr (fun k => by rw [has_f _ hy, Option.bind_some]) (Ev.congr (fun k => if_neg (by rw [Int.toNat_natCast, by_ i ha', decide_eq_true (rfl : i = i)]; simp)) ?_)
  by_cases e : (j : Int) = (i : Int)
  · exact Ev.congr (fun k => if_pos e) last
  · refine Ev.congr (fun k => if_neg e) ?_
    have hji : j ≠ i := fun h => e (by rw [h])
    refine Ev.congr (fun k => by rw [has_f _ hx, Option.bind_some, has_f _ hs, Option.bind_some]) (ev_if (by rw [Int.toNat_natCast, bx j hb', decide_eq_false hji, Bool.or_false, beq_self_eq_true]) ?_)
    exact Ev.congr (fun k => by rw [has_f _ hy, Option.bind_some, Option.bind_some]) (ev_if (by rw [Int.toNat_natCast, by_ j hb', decide_eq_false hji, Bool.not_false, Bool.and_true, beq_self_eq_true]) last)
end Go.Proofs.YtjnijjpihfgimaaDoor.Pure
