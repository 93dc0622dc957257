import Derived.Test.YtkkhjfkgfmodnaaSIrMakes
import Derived.Test.YtkkhjfkgfmodnaaIA
import Derived.Test.YtkkhjfkgfmodnaaIM2
import Derived.Test.YtkkhjfkgfmodnaaRT
namespace Go.Proofs.Ytkkhjfkgfmodnaa.Pure
open Go Go.RowKit Go.Proofs.Ytkkhjfkgfmodnaa.P Go.Proofs.Ytkkhjfkgfmodnaa.Opn Go.Proofs.YtkkhjfkgfmodnaaW.PrintWords Go.Proofs.YtkkhjfkgfmodnaaW.PrintLast Go.Proofs.YtkkhjfkgfmodnaaW.PrintMore
theorem known_ev : Ev (fun k => interlocklaw02_known.f k) true := Ev.of interlocklaw02_known.mono (k := 6) known_6
theorem makes_j1 (l : List (List Int)) (n : Nat) (th : List (List S30)) (hn1 : 1 ≤ n) (hn : n ≤ 3) (hl : th.length = n) (hg : ∀ c ∈ th, CodeG n c) (hM : Ev (fun k => interlocklaw02_Make.f k l) (2, 1, 1, [1], 1, 1, th)) (m : Nat) (hm : m ≤ 8) (x : Int) (hx : x = if 6 < n + m then 3 else 0) :
    Ev (fun k => interlocklaw02_IrMakes.j1 k l x 2 1 1 [1] 1 1 (th ++ List.replicate m [])) true := by
  have hlen : (th ++ List.replicate m ([] : List S30)).length = n + m := by rw [List.length_append, List.length_replicate, hl]
  have hmem : ∀ c ∈ th ++ List.replicate m ([] : List S30), AllG (n + m) c.length c ∧ c.length ≤ 60 := by
    intro c hc
    rcases List.mem_append.1 hc with h | h
    · exact ⟨(hg c h).1.more (by omega) (Nat.le_refl _), by have := (hg c h).2; omega⟩
    · obtain ⟨_, rfl⟩ := List.mem_replicate.1 h
      exact ⟨fun x hx => (by cases hx), Nat.zero_le _⟩
  have e1 : ir_Sound.f 2 1 1 [1] 1 1 (th ++ List.replicate m ([] : List S30)) = some x := by
    rw [sound_f (bytes_good (t := n + m) (fun c hc => (hmem c hc).1)), sound_th _ (fun c hc => by rw [hlen]; exact (hmem c hc).1) (fun c hc => (hmem c hc).2) (by omega), hlen, hx]
  have e2 : Ev (fun k => interlockref02_Sound.f k 2 1 1 [1] 1 1 th) 0 := by
    have h := rsound_ev 2 1 1 1 1 [1] th (by decide) (by omega) (bytes_good (t := n) (fun c hc => (hg c hc).1)) (fun i hi => by have := (hg _ (code_mem hi)).2; omega)
    rw [sound_th th (fun c hc => by rw [hl]; exact (hg c hc).1) (fun c hc => by have := (hg c hc).2; omega) (by omega), if_neg (by omega)] at h
    exact h
  refine Ev.step (fun k => by simp only [interlocklaw02_IrMakes.j1]; rfl) (Ev.bind known_ev (ev_pos rfl ?_))
  rw [e1]
  refine ev_pos rfl (Ev.bind hM (Ev.bind e2 (Ev.now true)))
theorem makes_l0 (l : List (List Int)) (a : Int) (n m : Nat) (th : List (List S30)) (hn1 : 1 ≤ n) (hn : n ≤ 3) (hl : th.length = n) (hg : ∀ c ∈ th, CodeG n c) (hM : Ev (fun k => interlocklaw02_Make.f k l) (2, 1, 1, [1], 1, 1, th)) (hm : m ≤ 8) (hw : wrap64 (Int.tmod a 9) = (m : Int)) : ∀ d i : Nat, i + d = m →
    Ev (fun k => interlocklaw02_IrMakes.l0 k l a (n : Int) (i : Int) 2 1 1 [1] 1 1 (th ++ List.replicate i [])) true
  | 0, i, h => by
    obtain rfl : i = m := by omega
    refine Ev.step (f := fun k => if (wrap64 ((n : Int) + (i : Int))) > 6 then interlocklaw02_IrMakes.j1 k l 3 2 1 1 [1] 1 1 (th ++ List.replicate i []) else interlocklaw02_IrMakes.j1 k l 0 2 1 1 [1] 1 1 (th ++ List.replicate i [])) (fun k => ?_) ?_
    · simp only [interlocklaw02_IrMakes.l0]
      rw [hw, if_neg (by omega)]
    · rw [w64 (by omega) (by omega)]
      by_cases h6 : (n : Int) + (i : Int) > 6
      · exact ev_pos h6 (makes_j1 l n th hn1 hn hl hg hM i hm 3 (by rw [if_pos (by omega)]))
      · exact ev_neg h6 (makes_j1 l n th hn1 hn hl hg hM i hm 0 (by rw [if_neg (by omega)]))
  | d + 1, i, h => by
    refine Ev.step (fun k => ?_) (makes_l0 l a n m th hn1 hn hl hg hM hm hw d (i + 1) (by omega))
    simp only [interlocklaw02_IrMakes.l0]
    rw [hw, if_pos (by omega), if_pos (by rw [List.length_append, List.length_replicate]; omega), up i (by omega), List.append_assoc, ← List.replicate_succ']
theorem IrMakes : Stmt.IrMakes := by
  intro l a hl ha
  obtain ⟨h1, h2⟩ := wf_rows hl
  have hr := u8_range ha
  obtain ⟨n, th, n1, n3, e, hg, hM⟩ := make_ok l h1 h2
  have t1 : 0 ≤ Int.tmod a 9 ∧ Int.tmod a 9 < 9 := ⟨Int.tmod_nonneg _ hr.1, Int.tmod_lt_of_pos a (by omega)⟩
  refine Ev.rounds (Ev.bind hM ?_)
  show Ev (fun k => interlocklaw02_IrMakes.l0 k l a (th.length : Int) 0 2 1 1 [1] 1 1 th) true
  have := makes_l0 l a n (Int.tmod a 9).toNat th n1 n3 e hg hM (by omega) (by rw [w64 (by omega) (by omega)]; omega) (Int.tmod a 9).toNat 0 (by omega)
  rw [List.replicate_zero, List.append_nil] at this
  rw [e]
  exact this
end Go.Proofs.Ytkkhjfkgfmodnaa.Pure
