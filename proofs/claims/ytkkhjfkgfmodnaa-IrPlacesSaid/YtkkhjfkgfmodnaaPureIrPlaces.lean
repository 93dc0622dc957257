import Derived.Test.YtkkhjfkgfmodnaaSIrPlaces
import Derived.Test.YtkkhjfkgfmodnaaIA
import Derived.Test.YtkkhjfkgfmodnaaIM2
namespace Go.Proofs.Ytkkhjfkgfmodnaa.Pure
open Go Go.RowKit Go.Proofs.Ytkkhjfkgfmodnaa.P Go.Proofs.Ytkkhjfkgfmodnaa.Opn Go.Proofs.YtkkhjfkgfmodnaaW.PrintWords Go.Proofs.YtkkhjfkgfmodnaaW.PrintLast Go.Proofs.YtkkhjfkgfmodnaaW.PrintMore
theorem known_ev : Ev (fun k => interlocklaw02_known.f k) true := Ev.of interlocklaw02_known.mono (k := 6) known_6
/-- A jump behind the first thread's instructions. -/
theorem sound_jump (n : Nat) (c : List S30) (th : List (List S30)) (hn : n ≤ 3) (hl : th.length + 1 = n) (hc : CodeG n c) (hg : ∀ c ∈ th, CodeG n c) (to_ : Int) :
    ir_Sound.f 2 1 1 [1] 1 1 ((c ++ [⟨10, to_, 0, 0⟩]) :: th) = some (if 0 ≤ to_ ∧ to_ ≤ (c.length : Int) + 1 then 0 else 21) := by
  have hlen : ((c ++ [(⟨10, to_, 0, 0⟩ : S30)]) :: th).length = n := by rw [List.length_cons]; exact hl
  have hcl : (c ++ [(⟨10, to_, 0, 0⟩ : S30)]).length = c.length + 1 := by rw [List.length_append]; rfl
  have hby : bytesOK ((c ++ [(⟨10, to_, 0, 0⟩ : S30)]) :: th) = true := by
    unfold bytesOK
    rw [List.all_eq_true]
    intro d hd
    rw [List.all_eq_true]
    intro x hx
    rcases List.mem_cons.1 hd with h | h
    · rw [h] at hx
      rcases List.mem_append.1 hx with h2 | h2
      · have := (hc.1 x h2).1; simpa using this
      · rw [List.mem_singleton.1 h2]; rfl
    · have := ((hg d h).1 x hx).1; simpa using this
  rw [sound_f hby]
  unfold soundRes
  rw [far_th _ (fun d hd => by
    rcases List.mem_cons.1 hd with h | h
    · rw [h, hcl]; have := hc.2; omega
    · have := (hg d h).2; omega), hlen]
  unfold outB
  rw [decide_eq_false (show ¬ ((n : Int) < 1) by omega), decide_eq_false (show ¬ ((n : Int) > 6) by omega), if_neg (by decide), if_neg (by decide)]
  show some (if codeRes (lims 2 1 1 1 1 1 n (((c ++ [(⟨10, to_, 0, 0⟩ : S30)]).length : Nat) : Int)) (c ++ [(⟨10, to_, 0, 0⟩ : S30)]) = 0 then allRes (lims 2 1 1 1 1 1 n) th else codeRes (lims 2 1 1 1 1 1 n (((c ++ [(⟨10, to_, 0, 0⟩ : S30)]).length : Nat) : Int)) (c ++ [(⟨10, to_, 0, 0⟩ : S30)])) = _
  rw [code_app, hcl, if_pos (code_good n (c.length + 1) c (hc.1.more (Nat.le_refl _) (by omega))), all_good n th (fun d hd => (hg d hd).1)]
  have e : codeRes (lims 2 1 1 1 1 1 n ((c.length + 1 : Nat) : Int)) [(⟨10, to_, 0, 0⟩ : S30)] = if 0 ≤ to_ ∧ to_ ≤ (c.length : Int) + 1 then 0 else 21 := by
    show (if insRes (lims 2 1 1 1 1 1 n ((c.length + 1 : Nat) : Int)) (⟨10, to_, 0, 0⟩ : S30) = 0 then (0 : Int) else insRes (lims 2 1 1 1 1 1 n ((c.length + 1 : Nat) : Int)) (⟨10, to_, 0, 0⟩ : S30)) = _
    have e2 : insRes (lims 2 1 1 1 1 1 n ((c.length + 1 : Nat) : Int)) (⟨10, to_, 0, 0⟩ : S30) = if bad2 (some (((c.length + 1 : Nat) : Int) + 1)) 5 to_ = true then 21 else 0 := by
      have h1 : any1 true (shpAt 10) (xyz to_ 0 0) 3 = false := by rfl
      have h2 : any2 (lims 2 1 1 1 1 1 n ((c.length + 1 : Nat) : Int)) (shpAt 10) (xyz to_ 0 0) 3 = bad2 (some (((c.length + 1 : Nat) : Int) + 1)) 5 to_ := by
        show (((false || bad2 (some (((c.length + 1 : Nat) : Int) + 1)) 5 to_) || bad2 none 0 0) || bad2 none 0 0) = _
        cases bad2 (some (((c.length + 1 : Nat) : Int) + 1)) 5 to_ <;> rfl
      show insBad _ true (shpAt 10) (xyz to_ 0 0) = _
      unfold insBad
      rw [h1, h2, if_neg (by decide)]
    rw [e2]
    have hb : (bad2 (some (((c.length + 1 : Nat) : Int) + 1)) 5 to_ = true) ↔ ¬ (0 ≤ to_ ∧ to_ ≤ (c.length : Int) + 1) := by
      simp [bad2]; omega
    by_cases h : 0 ≤ to_ ∧ to_ ≤ (c.length : Int) + 1
    · rw [if_neg (fun h2 => hb.1 h2 h), if_pos h]; rfl
    · rw [if_pos (hb.2 h), if_neg h]; rfl
  rw [e]
  by_cases h : 0 ≤ to_ ∧ to_ ≤ (c.length : Int) + 1
  · rw [if_pos h]; rfl
  · rw [if_neg h]; rfl
theorem IrPlaces : Stmt.IrPlaces := by
  intro l a b hl ha
  obtain ⟨h1, h2⟩ := wf_rows hl
  have hr := u8_range ha
  obtain ⟨n, th, n1, n3, e, hg, hM⟩ := make_ok l h1 h2
  obtain ⟨c, th, rfl⟩ : ∃ c t, th = c :: t := by
    cases th with
    | nil => simp at e; omega
    | cons c t => exact ⟨c, t, rfl⟩
  have hc := hg c List.mem_cons_self
  have hg2 : ∀ d ∈ th, CodeG n d := fun d hd => hg d (List.mem_cons_of_mem _ hd)
  have hcl := hc.2
  have hS := fun to_ => sound_jump n c th n3 (by rw [List.length_cons] at e; exact e) hc hg2 to_
  refine Ev.rounds (Ev.bind hM ?_)
  refine ev_pos (show (0 : Int) < ((c :: th).length : Int) by rw [List.length_cons]; omega) ?_
  have e0 : rd_L4 (c :: th) 0 = c := rfl
  have es : ∀ x : List S30, (c :: th).set (0 : Int).toNat x = x :: th := fun x => rfl
  have t3 : 0 ≤ Int.tmod a 3 ∧ Int.tmod a 3 < 3 := ⟨Int.tmod_nonneg _ hr.1, Int.tmod_lt_of_pos a (by omega)⟩
  have w1 : wrap64 ((c.length : Int) + 1) = (c.length : Int) + 1 := w64 (by omega) (by omega)
  have w2 : wrap64 (Int.tmod a 3) = Int.tmod a 3 := w64 (by omega) (by omega)
  have w3 : wrap64 ((c.length : Int) + 1 + Int.tmod a 3) = (c.length : Int) + 1 + Int.tmod a 3 := w64 (by omega) (by omega)
  have w4 : wrap64 ((c.length : Int) + 1 + Int.tmod a 3 - 1) = (c.length : Int) + 1 + Int.tmod a 3 - 1 := w64 (by omega) (by omega)
  have w5 : wrap64 ((-1) - wrap64 a) = -1 - a := by rw [w64 (x := a) (by omega) (by omega), w64 (by omega) (by omega)]
  show Ev (fun k => if b = true then _ else _) true
  simp only [e0, es, w1, w2, w3, w4, w5]
  cases b with
  | true =>
    refine ev_pos rfl (ev_pos (by omega) ?_)
    refine Ev.bind (Ev.now _) (Ev.bind known_ev (ev_pos rfl ?_))
    rw [hS, if_neg (by omega)]
    exact Ev.now true
  | false =>
    refine ev_neg (by decide) (ev_pos (by omega) ?_)
    refine Ev.bind (Ev.now _) (Ev.bind known_ev (ev_pos rfl ?_))
    rw [hS]
    generalize Int.tmod a 3 = q at t3 ⊢
    by_cases h : (c.length : Int) + 1 + q - 1 ≤ (c.length : Int) + 1
    · rw [if_pos (by omega), decide_eq_true h, if_pos h]
      exact Ev.now true
    · rw [if_neg (by omega), decide_eq_false h, if_neg h]
      exact Ev.now true
end Go.Proofs.Ytkkhjfkgfmodnaa.Pure
