import Derived.Test.YtkkhjfkgfmodnaaSIrSounds
import Derived.Test.YtkkhjfkgfmodnaaIA
import Derived.Test.YtkkhjfkgfmodnaaIM2
import Derived.Test.YtkkhjfkgfmodnaaRT
namespace Go.Proofs.Ytkkhjfkgfmodnaa.Pure
open Go Go.RowKit Go.Proofs.Ytkkhjfkgfmodnaa.P Go.Proofs.Ytkkhjfkgfmodnaa.Opn Go.Proofs.YtkkhjfkgfmodnaaW.PrintWords Go.Proofs.YtkkhjfkgfmodnaaW.PrintLast Go.Proofs.YtkkhjfkgfmodnaaW.PrintMore
theorem known_ev : Ev (fun k => interlocklaw02_known.f k) true := Ev.of interlocklaw02_known.mono (k := 6) known_6
theorem ins_small (L : List (Int × Int)) (x : S30) : 0 ≤ insRes L x ∧ insRes L x ≤ 255 := by
  unfold insRes insBad
  split
  · omega
  · split <;> omega
theorem code_small (L : List (Int × Int)) : ∀ c : List S30, 0 ≤ codeRes L c ∧ codeRes L c ≤ 255
  | [] => ⟨by show (0 : Int) ≤ 0; decide, by show (0 : Int) ≤ 255; decide⟩
  | x :: c => by
    have h1 := ins_small L x
    have h2 := code_small L c
    show 0 ≤ (if insRes L x = 0 then codeRes L c else insRes L x) ∧ (if insRes L x = 0 then codeRes L c else insRes L x) ≤ 255
    split
    · exact h2
    · exact h1
theorem all_small (L : Int → List (Int × Int)) : ∀ th : List (List S30), 0 ≤ allRes L th ∧ allRes L th ≤ 255
  | [] => ⟨by show (0 : Int) ≤ 0; decide, by show (0 : Int) ≤ 255; decide⟩
  | c :: th => by
    have h1 := code_small (L (c.length : Int)) c
    have h2 := all_small L th
    show 0 ≤ (if codeRes (L (c.length : Int)) c = 0 then allRes L th else codeRes (L (c.length : Int)) c) ∧ (if codeRes (L (c.length : Int)) c = 0 then allRes L th else codeRes (L (c.length : Int)) c) ≤ 255
    split
    · exact h2
    · exact h1
theorem res_small (V A L : Int) (ch : List Int) (G O : Int) (th : List (List S30)) : 0 ≤ soundRes V A L ch G O th ∧ soundRes V A L ch G O th ≤ 255 := by
  unfold soundRes
  split
  · omega
  · split
    · omega
    · exact all_small _ th
/-- A program's threads, of which no length goes beyond a word. -/
def ThOK (th : List (List S30)) : Prop := th.length ≤ 20 ∧ ∀ c ∈ th, c.length ≤ 100 ∧ ∀ x ∈ c, 0 ≤ x.f0 ∧ x.f0 ≤ 255
theorem ThOK.bytes {th : List (List S30)} (h : ThOK th) : bytesOK th = true := by
  unfold bytesOK
  rw [List.all_eq_true]
  intro c hc
  rw [List.all_eq_true]
  intro x hx
  have := (h.2 c hc).2 x hx
  simpa using this
theorem both_ev (V A L G O : Int) (ch : List Int) (th : List (List S30)) (hch : ch.length ≤ 9223372036854775807) (h : ThOK th) :
    Ev (fun k => interlockref02_Sound.f k V A L ch G O th) (soundRes V A L ch G O th) :=
  rsound_ev V A L G O ch th hch (by have := h.1; omega) h.bytes (fun i hi => by have := (h.2 _ (code_mem hi)).1; omega)
theorem wrap_res (V A L : Int) (ch : List Int) (G O : Int) (th : List (List S30)) : wrap64 (soundRes V A L ch G O th) = soundRes V A L ch G O th := by
  have := res_small V A L ch G O th
  exact w64 (by omega) (by omega)
theorem end_ev (V A L G O : Int) (ch : List Int) (th : List (List S30)) (hch : ch.length ≤ 9223372036854775807) (h : ThOK th) :
    Ev (fun k => (ir_Sound.f V A L ch G O th).bind fun t => (interlockref02_Sound.f k V A L ch G O th).bind fun t2 => some (wrap64 t == t2)) true := by
  rw [sound_f h.bytes]
  refine Ev.bind (Ev.now _) (Ev.bind (both_ev V A L G O ch th hch h) ?_)
  rw [wrap_res, beq_self_eq_true]
  exact Ev.now true
theorem ThOK.code {th : List (List S30)} (h : ThOK th) (i : Nat) : (codeAt th i).length ≤ 100 ∧ ∀ x ∈ codeAt th i, 0 ≤ x.f0 ∧ x.f0 ≤ 255 := by
  by_cases hi : i < th.length
  · exact h.2 _ (code_mem hi)
  · have : codeAt th i = [] := by unfold codeAt; rw [List.getD_eq_getElem?_getD, List.getElem?_eq_none (by omega)]; rfl
    rw [this]
    exact ⟨by decide, fun x hx => by cases hx⟩
theorem ThOK.set_ {th : List (List S30)} (h : ThOK th) (i j : Nat) (x : S30) (hx : 0 ≤ x.f0 ∧ x.f0 ≤ 255) : ThOK (th.set i ((codeAt th i).set j x)) := by
  refine ⟨by rw [List.length_set]; exact h.1, fun c hc => ?_⟩
  rcases List.mem_or_eq_of_mem_set hc with h1 | h1
  · exact h.2 c h1
  · rw [h1]
    refine ⟨by rw [List.length_set]; exact (h.code i).1, fun y hy => ?_⟩
    rcases List.mem_or_eq_of_mem_set hy with h2 | h2
    · exact (h.code i).2 y h2
    · rw [h2]; exact hx
theorem sounds_j2 (how t at_ n i0 i1 i2 i3 : Int) (th : List (List S30)) (_hh : 0 ≤ how ∧ how ≤ 255) (ht : 0 ≤ t ∧ t ≤ 255) (ha : 0 ≤ at_ ∧ at_ ≤ 255) (hi : 0 ≤ i0 ∧ i0 ≤ 255) (h : ThOK th) (h1 : 1 ≤ th.length) (h3 : th.length ≤ 3) :
    Ev (fun k => interlocklaw02_IrSounds.j2 k how t at_ n false i0 i1 i2 i3 2 1 1 [1] 1 1 th) true := by
  have hm : 0 ≤ Int.tmod at_ 70 ∧ Int.tmod at_ 70 < 70 := ⟨Int.tmod_nonneg _ ha.1, Int.tmod_lt_of_pos at_ (by omega)⟩
  have wm : wrap64 (Int.tmod at_ 70) = Int.tmod at_ 70 := w64 (by omega) (by omega)
  have wt : wrap64 t = t := w64 (by omega) (by omega)
  have wa : wrap64 at_ = at_ := w64 (by omega) (by omega)
  refine Ev.step (fun k => by simp only [interlocklaw02_IrSounds.j2]; rfl) ?_
  refine ev_neg (by decide) ?_
  by_cases c0 : Int.tmod how 9 = 0
  · exact ev_pos c0 (end_ev _ _ _ _ _ _ _ (by decide) h)
  refine ev_neg c0 ?_
  by_cases c1 : Int.tmod how 9 = 1
  · exact ev_pos c1 (end_ev _ _ _ _ _ _ _ (by decide) h)
  refine ev_neg c1 ?_
  by_cases c2 : Int.tmod how 9 = 2
  · exact ev_pos c2 (end_ev _ _ _ _ _ _ _ (by decide) h)
  refine ev_neg c2 ?_
  by_cases c3 : Int.tmod how 9 = 3
  · exact ev_pos c3 (end_ev _ _ _ _ _ _ _ (by decide) h)
  refine ev_neg c3 ?_
  by_cases c4 : Int.tmod how 9 = 4
  · exact ev_pos c4 (end_ev _ _ _ _ _ _ _ (by decide) h)
  refine ev_neg c4 ?_
  by_cases c5 : Int.tmod how 9 = 5
  · refine ev_pos c5 (ev_pos (by decide) (Ev.bind (Ev.now _) (end_ev _ _ _ _ _ _ _ ?_ h)))
    rw [List.length_append]
    show 1 + 1 ≤ _
    omega
  refine ev_neg c5 ?_
  by_cases c6 : Int.tmod how 9 = 6
  · rw [wm]
    refine ev_pos c6 (ev_pos hm.1 (ev_pos (by omega) (ev_pos (by omega) (Ev.bind (Ev.now _) (end_ev _ _ _ _ _ _ _ (by decide) ?_)))))
    refine ⟨by rw [List.length_append]; show th.length + 1 ≤ 20; omega, fun c hc => ?_⟩
    rcases List.mem_append.1 hc with h2 | h2
    · exact h.2 c h2
    · rw [List.mem_singleton.1 h2]
      refine ⟨by rw [List.length_replicate]; omega, fun x hx => ?_⟩
      obtain ⟨_, rfl⟩ := List.mem_replicate.1 hx
      exact ⟨by decide, by decide⟩
  refine ev_neg c6 ?_
  rw [wt, wa]
  have hk : 0 ≤ Int.tmod t (th.length : Int) ∧ Int.tmod t (th.length : Int) < (th.length : Int) := ⟨Int.tmod_nonneg _ ht.1, Int.tmod_lt_of_pos t (by omega)⟩
  obtain ⟨k, ek⟩ : ∃ k : Nat, Int.tmod t (th.length : Int) = (k : Int) := ⟨(Int.tmod t (th.length : Int)).toNat, by omega⟩
  rw [ek] at hk ⊢
  rw [rd_code]
  refine ev_neg (by omega) (ev_pos hk.1 (ev_pos hk.2 ?_))
  by_cases hl : ((codeAt th k).length : Int) > 0
  · have hj : 0 ≤ Int.tmod at_ ((codeAt th k).length : Int) ∧ Int.tmod at_ ((codeAt th k).length : Int) < ((codeAt th k).length : Int) := ⟨Int.tmod_nonneg _ ha.1, Int.tmod_lt_of_pos at_ (by omega)⟩
    refine ev_pos hl (ev_neg (by omega) (ev_pos hj.1 (ev_pos hj.2 (Ev.bind (Ev.now _) (end_ev _ _ _ _ _ _ _ (by decide) ?_)))))
    rw [Int.toNat_natCast]
    exact h.set_ k _ ⟨i0, i1, i2, i3⟩ hi
  · exact ev_neg hl (end_ev _ _ _ _ _ _ _ (by decide) h)
section
variable (V A L G O : Int) (ch : List Int) (p : List (List S30)) (l : List (List Int)) (how t at_ n i0 i1 i2 i3 : Int)
theorem sounds_l0 (hch : ch.length ≤ 9223372036854775807) (hp : p.length ≤ 10) (hpb : ∀ c ∈ p, ∀ x ∈ c, 0 ≤ x.f0 ∧ x.f0 ≤ 255) (hl : ∀ c ∈ l, c.length ≤ 9223372036854775807 ∧ U8s c) (hll : l.length ≤ 9223372036854775807)
    (hh : 0 ≤ how ∧ how ≤ 255) (ht : 0 ≤ t ∧ t ≤ 255) (ha : 0 ≤ at_ ∧ at_ ≤ 255) (hi : 0 ≤ i0 ∧ i0 ≤ 255) : ∀ d j : Nat, j + d = p.length → (∀ q, q < j → (codeAt p q).length ≤ 70) →
    Ev (fun k => interlocklaw02_IrSounds.l0 k l how t at_ n (j : Int) V A L ch G O p i0 i1 i2 i3) true
  | 0, j, h, hq => by
    obtain rfl : j = p.length := by omega
    obtain ⟨m, th, m1, m3, e, hg, hM⟩ := make_ok l hl hll
    have hT : ThOK th := ⟨by omega, fun c hc => ⟨by have := (hg c hc).2; omega, fun x hx => ((hg c hc).1 x hx).1⟩⟩
    have hP : ThOK p := ⟨by omega, fun c hc => by
      obtain ⟨q, hq1, rfl⟩ := List.getElem_of_mem hc
      have := hq q hq1
      have e2 : codeAt p q = p[q] := by unfold codeAt; rw [List.getD_eq_getElem?_getD, List.getElem?_eq_getElem hq1]; rfl
      rw [e2] at this
      exact ⟨by omega, hpb _ hc⟩⟩
    have es : ir_Sound.f 2 1 1 [1] 1 1 th = some 0 := by
      rw [sound_f hT.bytes, sound_th th (fun c hc => by rw [e]; exact (hg c hc).1) (fun c hc => by have := (hg c hc).2; omega) (by omega), if_neg (by omega)]
    refine Ev.step (f := fun k => (interlocklaw02_Make.f k l).bind fun bt428 => _) (fun k => by simp only [interlocklaw02_IrSounds.l0]; rw [if_neg (by omega)]) (Ev.bind hM ?_)
    show Ev (fun k => (ir_Sound.f 2 1 1 [1] 1 1 th).bind _) true
    rw [es]
    refine Ev.bind (Ev.now 0) (ev_pos rfl ?_)
    rw [sound_f hP.bytes]
    refine Ev.bind (Ev.now _) (Ev.bind (both_ev V A L G O ch p hch hP) ?_)
    rw [wrap_res, show (soundRes V A L ch G O p != soundRes V A L ch G O p) = false by simp]
    exact sounds_j2 how t at_ n i0 i1 i2 i3 th hh ht ha hi hT (by omega) (by omega)
  | d + 1, j, h, hq => by
    refine Ev.step (f := fun k => if ((codeAt p j).length : Int) > 70 then some true else interlocklaw02_IrSounds.l0 k l how t at_ n ((j + 1 : Nat) : Int) V A L ch G O p i0 i1 i2 i3) (fun k => ?_) ?_
    · simp only [interlocklaw02_IrSounds.l0]
      rw [if_pos (by omega), if_pos (by omega), rd_code, up j (by omega)]
    · by_cases h7 : ((codeAt p j).length : Int) > 70
      · exact ev_pos h7 (Ev.now true)
      · refine ev_neg h7 (sounds_l0 hch hp hpb hl hll hh ht ha hi d (j + 1) (by omega) (fun q hq2 => ?_))
        by_cases e : q = j
        · rw [e]; omega
        · exact hq q (by omega)
end
theorem IrSounds : Stmt.IrSounds := by
  rintro ⟨V, A, L, ch, G, O, p⟩ l how t at_ n ⟨i0, i1, i2, i3⟩ hw hl hh ht ha hn hi
  obtain ⟨_, _, _, hch, _, _, hp⟩ := hw
  obtain ⟨h1, h2⟩ := wf_rows hl
  have hch' : ch.length ≤ 9223372036854775807 := hch.1
  have hi' : 0 ≤ i0 ∧ i0 ≤ 255 := u8_range hi.1
  refine Ev.rounds ?_
  show Ev (fun k => interlocklaw02_IrSounds.f k V A L ch G O p l how t at_ n i0 i1 i2 i3) true
  by_cases h10 : (p.length : Int) > 10
  · exact ev_pos h10 (Ev.step (f := fun k => (interlocklaw02_known.f k).bind fun t => some t) (fun k => by simp only [interlocklaw02_IrSounds.j0]; rw [if_pos trivial]) (Ev.bind known_ev (Ev.now true)))
  · refine ev_neg h10 (Ev.bind known_ev ?_)
    refine Ev.step (f := fun k => interlocklaw02_IrSounds.l0 k l how t at_ n 0 V A L ch G O p i0 i1 i2 i3) (fun k => by simp only [interlocklaw02_IrSounds.j0]; exact if_neg (by decide)) ?_
    exact sounds_l0 V A L G O ch p l how t at_ n i0 i1 i2 i3 hch' (by omega) (fun c hc x hx => u8_range ((hp.2 c hc).2 x hx).1) h1 h2 (u8_range hh) (u8_range ht) (u8_range ha) hi' p.length 0 (by omega) (fun q hq => absurd hq (Nat.not_lt_zero q))
end Go.Proofs.Ytkkhjfkgfmodnaa.Pure
