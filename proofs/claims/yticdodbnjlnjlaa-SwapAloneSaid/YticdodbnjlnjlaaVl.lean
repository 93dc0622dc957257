import Derived.StillTailTactics
import Derived.Test.YticdodbnjlnjlaaVj
namespace Go.Proofs.Yticdodbnjlnjlaa.P
open Go.RowKit Go.Proofs.YticdodbnjlnjlaaW.PrintWords Go.Proofs.YticdodbnjlnjlaaW.PrintLast Go.Proofs.YticdodbnjlnjlaaW.PrintMore
attribute [local go_sem] max2_int min2_int max_two min_two max_three min_three max_four min_four
attribute [local irreducible] Calls
set_option linter.unusedVariables false
set_option linter.unusedSimpArgs false
structure RD (w0 W : World) (P : PV) (nc b2 b4 b6 i : Nat) (s : (Nat → List Int) × Int) (v : Value) : Prop where
  st : ∃ lo g f lsO vR vQ, Box W b6 P f vR vQ s.2 ∧ WF W lo g f lsO vR vQ nc ∧ Seen g f lsO s.1 ∧ NE g v
  x2 : W.heap[b2]? = some (.cells (pCells P) 26 (0, 0))
  x4 : W.heap[b4]? = some (.cells zR 47 (0, 0))
  p : Row W w0.heap.size v (List.replicate i 0)
  be : Below w0.heap.size w0 W
  l4 : w0.heap.size ≤ b4
  l6 : w0.heap.size ≤ b6
section
variable {w0 W W1 : World} {P : PV} {nc b2 b4 b6 i : Nat} {s s' : (Nat → List Int) × Int} {v : Value}
theorem RD.below (h : RD w0 W P nc b2 b4 b6 i s v) (hb : Below W.heap.size W W1) : RD w0 W1 P nc b2 b4 b6 i s v := by
  obtain ⟨lo, g, f, lsO, vR, vQ, h1, h2, h3, h4⟩ := h.st
  exact ⟨⟨lo, g, f, lsO, vR, vQ, blk_below h1 hb, h2.below hb, h3, h4⟩, blk_below h.x2 hb, blk_below h.x4 hb, Kd.R_below h.p hb, below_step h.be hb, h.l4, h.l6⟩
theorem RD.step (h : RD w0 W P nc b2 b4 b6 i s v) {lo : Nat} {g f : Nat → Value} {lsO : Nat → List Int} {vR vQ : Value} (hwf : WF W lo g f lsO vR vQ nc) (hse : Seen g f lsO s'.1) (hne : NE g v) : RD w0 (W.setRow b6 (sCells P f vR vQ s'.2)) P nc b2 b4 b6 i s' v := by
  obtain ⟨lo1, g1, f1, lsO1, vR1, vQ1, h1, _, _, _⟩ := h.st
  exact ⟨⟨lo, g, f, lsO, vR, vQ, setRow_heap _ _ _ _ _ _ h1, hwf.farRow h1 (by decide) (by decide) _, hse, hne⟩, (setRow_other _ _ _ _ (blk_ne h.x2 h1 (by decide))).trans h.x2, (setRow_other _ _ _ _ (blk_ne h.x4 h1 (by decide))).trans h.x4, Row.farRow h.p h1 (by decide) _, below_rowS h.be h.l6, h.l4, h.l6⟩
theorem RD.app (h : RD w0 W P nc b2 b4 b6 i s v) {vn : Value} {ok : Nat → Prop} (hr : Kd.R (Kd.int .i64) 3 W1 w0.heap.size ok vn (List.replicate i 0 ++ [0])) (hg : W.grownBy W1 v.ownBlock) (hat : vn.ownBlock = v.ownBlock ∨ ∃ b, vn.ownBlock = some b ∧ W.heap.size ≤ b) : RD w0 W1 P nc b2 b4 b6 (i + 1) s vn := by
  obtain ⟨lo1, g1, f1, lsO1, vR1, vQ1, h1, h2, h3, h4⟩ := h.st
  have kp : ∀ (k t : Nat) (cs : Array Value), W.heap[k]? = some (.cells cs t (0, 0)) → t ≠ 3 → W1.heap[k]? = some (.cells cs t (0, 0)) := fun k t cs hk ht => blk_grown hk hg (fun e => by
    obtain ⟨c2, h5⟩ := own_block h.p e.symm
    exact blk_ne hk h5 ht rfl)
  refine ⟨⟨lo1, g1, f1, lsO1, vR1, vQ1, kp _ _ _ h1 (by decide), h2.grownRow h.p h4 hg, h3, NE.grow h2 h4 hat⟩, kp _ _ _ h.x2 (by decide), kp _ _ _ h.x4 (by decide), ?_, h.be.grown hg (below_size h.be) (fun k hk => Kd.R_base h.p k hk), h.l4, h.l6⟩
  rw [List.replicate_succ']
  exact R_self hr
end
set_option maxHeartbeats 16000000 in
set_option maxRecDepth 100000 in
theorem round_any (P : PV) (code : List S33) (pc : List Int) (nc : Nat) (w : World) (hP : PF w P code pc) (hnc : pc.length = nc) (hl : Lim P nc) (hS : SOUND P w) (hG : GS nc code pc (ls0 P nc) 8) :
    Calls Try.prog 19 #[.agg (pCells P), .int .i64 200] w (fun e w' => ∃ m vO vP vT evs, m ≤ 200 ∧ (∀ i, i < m → canF code pc (itS code (ls0 P nc, 0) i).1 (itS code (ls0 P nc, 0) i).2 = true) ∧ (m = 200 ∨ canF code pc (itS code (ls0 P nc, 0) m).1 (itS code (ls0 P nc, 0) m).2 = false) ∧ e = .returned (.tuple #[.agg (rCells vO (statusF code pc (itS code (ls0 P nc, 0) m).1 (itS code (ls0 P nc, 0) m).2) vP vT), .int .i64 0]) ∧ IS w' vO ((itS code (ls0 P nc, 0) m).1 11) ∧ IS w' vP (List.replicate m 0) ∧ (∃ A c, vT = .slice A m c ∧ m ≤ c ∧ Kd.C k75 w' A m evs) ∧ (∀ e ∈ evs, e.f0 = 0) ∧ Below w.heap.size w w') := by
  have hC : P.vC.oneCell' = true := hP.c.one
  have hT : P.vT.oneCell' = true := by obtain ⟨_, _, _, _, e, _⟩ := hP.t; rw [e]; rfl
  have HP := am hP
  have HNC := am hl.c
  have HL := am hl
  have HSO := am hS
  have HG := am hG
  have HC := am hC
  have HT := am hT
  have HPC := am hnc
  obtain ⟨aT, cT, _, _, eT, _⟩ := hP.t
  have HVT := am eT
  clear hP hl hS hG hC hT hnc eT
  go_enter Try.func19, Try.ntmps19
  go_upto_region 7 with (first | ((with_reducible refine gd 2 ?_); refine bx 2 (pCells P) 26 ?_; intro b2 qg W qx qb; have HX2 := am qx; have HB := am qb; clear qg qx qb) | ((with_reducible refine gd 4 ?_); refine bx 4 (zR) 47 ?_; intro b4 qg W qx qb; have H4 := am qx; have HG4 := am (Nat.le_trans (below_size HB.out) (Nat.le_of_eq qg.symm)); replace HX2 := am (blk_below HX2.out qb); replace HB := am (below_step HB.out qb); clear qg qx qb) | ((with_reducible refine gd 12 ?_); refine wpList_load_row rfl 26 (.tmp 2) rfl b2 rfl 26 (pCells P) (0, 0) _ HX2.out Try.underlying26 rfl size26 ?_) | (go_at_call 38; refine (new_any P code pc nc _ (HP.out.below HB.out) HPC.out HL.out (fun w' hb' => HSO.out w' (below_step HB.out hb'))).mono ?_; rintro e W ⟨g, vR, vQ, rfl, hws, hb⟩; replace H4 := am (blk_below H4.out hb); replace HX2 := am (blk_below HX2.out hb); replace HB := am (below_step HB.out hb); have HWS := am hws.wf; clear hws hb) | ((with_reducible refine gd 6 ?_); refine bx 6 (zCells) 70 ?_; intro b6 qg W qx qb; have H6 := am qx; have HG6 := am (Nat.le_trans (below_size HB.out) (Nat.le_of_eq qg.symm)); replace H4 := am (blk_below H4.out qb); replace HX2 := am (blk_below HX2.out qb); replace HWS := am (HWS.out.below qb); replace HB := am (below_step HB.out qb); clear qg qx qb) | ((with_reducible refine gs 70 6 ?_); refine store_row_event rfl 70 (.tmp 6) (.tmp 14) rfl b6 (sCells P g vR vQ 0) rfl rfl 70 _ H6.out size70 rfl (sOne 0 (HWS.out.rs (Seen.refl _ _)) HC.out HT.out) rfl ?_; intro W hw; have HX6 := am (show Box W b6 P g vR vQ 0 by rw [hw]; exact setRow_heap _ _ _ _ _ _ H6.out); replace H4 := am (show W.heap[b4]? = some (.cells zR 47 (0, 0)) by rw [hw]; exact (setRow_other _ _ _ _ (blk_ne H4.out H6.out (by decide))).trans H4.out); replace HX2 := am (show W.heap[b2]? = some (.cells (pCells P) 26 (0, 0)) by rw [hw]; exact (setRow_other _ _ _ _ (blk_ne HX2.out H6.out (by decide))).trans HX2.out); replace HWS := am (show WF W _ g g (ls0 P nc) vR vQ nc by rw [hw]; exact HWS.out.farRow H6.out (by decide) (by decide) _); replace HB := am (show Below w.heap.size w W by rw [hw]; exact below_rowS HB.out HG6.out); clear hw H6))
  have R0 : Aside0 (RD w W P nc b2 b4 b6 0 (ls0 P nc, 0) (.slice none 0 0)) := ⟨⟨⟨_, g, g, ls0 P nc, vR, vQ, HX6.out, HWS.out, Seen.refl _ _, fun j k _ h => by simp [Value.ownBlock] at h⟩, HX2.out, H4.out, Kd.R_nil _ _ _ _ _, HB.out, HG4.out, HG6.out⟩⟩
  have x6 : W.cell? ⟨b2, 6, none⟩ = some P.vT := blk_cell HX2.out 6
  rw [HVT.out] at x6
  clear HX6 HWS H4 HB HG4 HG6 HX2
  go_wp2
  go_loopw [8, 9] (fun v8 v9 wr => ∃ i : Nat, i ≤ 200 ∧ v9 = .int .i64 0 ∧ (∀ q, q < i → canF code pc (itS code (ls0 P nc, 0) q).1 (itS code (ls0 P nc, 0) q).2 = true) ∧ Aside0 (RD w wr P nc b2 b4 b6 i (itS code (ls0 P nc, 0) i) v8)) (fun v8 _ _ => 200 - (match v8 with | .slice _ n _ => n | _ => 0))
  case atStart => exact ⟨0, Nat.zero_le _, rfl, fun q hq => by omega, R0⟩
  case round =>
    clear R0 x6
    obtain ⟨i, hi, rfl, hci, HR⟩ := hrel
    obtain ⟨A8, c8, e8⟩ := row_len HR.out.p
    rw [List.length_replicate] at e8
    by_cases hlt : i < 200
    · have hcc : canF code pc (itS code (ls0 P nc, 0) i).1 (itS code (ls0 P nc, 0) i).2 = true ∨ canF code pc (itS code (ls0 P nc, 0) i).1 (itS code (ls0 P nc, 0) i).2 = false := by cases canF code pc (itS code (ls0 P nc, 0) i).1 (itS code (ls0 P nc, 0) i).2 <;> simp
      rcases hcc with hcan | hcan
      · as_aux_lemma =>
          have hgs := gs_it HG.out i hci
          obtain ⟨s, hs⟩ : ∃ s, s = itS code (ls0 P nc, 0) i := ⟨_, rfl⟩
          obtain ⟨s', hs'⟩ : ∃ s', s' = stS code s := ⟨_, rfl⟩
          have HS1 : Aside0 (s' = itS code (ls0 P nc, 0) (i + 1)) := ⟨by rw [hs', hs]; rfl⟩
          have HS0 := am hs
          rw [← hs] at HR hcan hgs
          obtain ⟨lo, g, f, lsO, vR, vQ, hx6, hw6, hse, hne⟩ := HR.out.st
          have HNX : Aside0 (∀ w', Below wr.heap.size wr w' → Calls Try.prog 39 #[.agg (sCells P f vR vQ s.2), .int .i64 0] w' (fun e w'' => e = .returned (.int .i64 0) ∧ Below w'.heap.size w' w'')) := ⟨fun w' hb => next_true P f s.1 vR vQ nc s.2 code pc w' (HP.out.below (below_step HR.out.be hb)) ((hw6.below hb).rs hse) hgs.si hcan⟩
          have HST : Aside0 (∀ w', Below wr.heap.size wr w' → Calls Try.prog 40 #[.agg (sCells P f vR vQ s.2), .int .i64 0] w' (RetS w' w'.heap.size nc P s'.1 s'.2)) := ⟨fun w' hb => by
            rw [hs']
            exact step_any P f s.1 vR vQ nc s.2 code pc w' (HP.out.below (below_step HR.out.be hb)) ((hw6.below hb).rs hse) hgs.si hcan (fun j => Nat.le_trans (hgs.len j) (by omega)) HNC.out hgs.un⟩
          have HX6 := am hx6
          have HCI := am hci
          have HLT := am hlt
          have hcan2 := am hcan
          clear hs hs' hcan hgs hx6 hw6 hse hne hci
          have HE8 := am e8
          subst e8
          have p1 := eq_true (show (i : Int) < (200 : Int) by omega)
          clear hlt hi
          go_wp2_with (first | ((with_reducible refine gd 34 ?_); refine wpList_load_row rfl 70 (.tmp 6) rfl b6 rfl 70 (sCells P f vR vQ s.2) (0, 0) _ HX6.out Try.underlying70 rfl size70 ?_) | (go_at_call 39; refine (HNX.out _ (Below.refl _ _)).mono ?_; rintro e W1 ⟨rfl, hb⟩; have HB1 := am hb; have HX1 := am (blk_below HX6.out hb); clear hb) | ((with_reducible refine gd 40 ?_); refine wpList_load_row rfl 70 (.tmp 6) rfl b6 rfl 70 (sCells P f vR vQ s.2) (0, 0) _ HX1.out Try.underlying70 rfl size70 ?_) | (go_at_call 40; refine (HST.out _ HB1.out).mono ?_; rintro e W2 ⟨g', f', lsO', vR', vQ', ev', rfl, hev, hwf, hse2, hb2, _⟩; have HB2 := am (below_step HB1.out hb2); have HR2 := am (HR.out.below HB2.out); have HWF := am hwf; have HSE2 := am hse2; have HNE := am (NE.fresh hwf (below_size HB1.out) HR.out.p); have HX2 := am (blk_below HX6.out HB2.out); clear hev hwf hse2 hb2) | ((with_reducible refine gs 70 6 ?_); refine store_row_event rfl 70 (.tmp 6) (.tmp 43) rfl b6 (sCells P f' vR' vQ' s'.2) rfl rfl 70 _ HX2.out size70 rfl (sOne _ (HWF.out.rs HSE2.out) HC.out HT.out) rfl ?_; intro W3 hw3; have HR3 := am (show RD w W3 P nc b2 b4 b6 i s' (.slice A8 i c8) by rw [hw3]; exact HR2.out.step HWF.out HSE2.out HNE.out); clear hw3) | ((with_reducible refine gd 48 ?_); refine Kd.R_lit (Kd.int .i64) (w0 := W3) W3.heap.size 3 ?hg (N := 48) ?hd (xs := [(0 : Int)]) (inner := [.int .i64 0]) (ok := fun _ => True) (okp := fun _ => False) ?hr (Kd.reps_scalar _) (fun _ h => h.elim) trivial (Below.refl _ _) (Nat.le_refl _) (by simp) ?_; (case hd => rfl); (case hg => rfl); (case hr => first | (go_simp; done) | (go_simp; rfl)); intro vl W4 hl hb4 _ _; obtain ⟨Al, cl, el⟩ := Kd.R_slice hl; subst el; have HL4 := am (Kd.R_reads' hl).2.2; have HR4 := am (HR3.out.below hb4); clear hl hb4) | ((with_reducible refine gate_builtin (b := .append) (xs := #[.tmp 46, .tmp 48]) rfl ?_); at_builtin; refine Kd.R_append_rows (Kd.int .i64) (w0 := w) w.heap.size rfl (.tmp 46) (.tmp 48) 23 3 (.int .i64 0) 8 rfl Try.underlying23 info3 rfl (by decide) (by omega) (.slice A8 i c8) (List.replicate i 0) [(0 : Int)] _ _ _ (fun _ => True) (fun _ => False) rfl rfl (Kd.R_mono HR4.out.p (fun _ _ => trivial)) HL4.out (fun _ _ h => h) (fun _ h => h.elim) (fun _ _ => trivial) HR4.out.be (below_size HR4.out.be) (by have := HLT.out; simp only [List.length_replicate, List.length_cons, List.length_nil]; omega) ?_; intro vn W5 hap _ hg5 hat; obtain ⟨An, cn, en⟩ := Kd.R_slice hap; subst en; have HR5 := am (HR4.out.app hap hg5 hat); clear hap hg5 hat))
          go_roundw
          case rel => exact ⟨i + 1, HLT.out, rfl, fun q hq => by
            rcases Nat.lt_or_ge q i with h | h
            · exact HCI.out q h
            · have : q = i := by omega
              subst this
              rw [← HS0.out]; exact hcan2.out, ⟨by have h5 := HR5.out; rw [List.length_append, List.length_replicate] at h5; rw [← HS1.out]; exact h5⟩⟩
          case measure => have := HLT.out; simp; omega
      · as_aux_lemma =>
          have hgs := gs_it HG.out i hci
          have hstop : i = 200 ∨ canF code pc (itS code (ls0 P nc, 0) i).1 (itS code (ls0 P nc, 0) i).2 = false := .inr hcan
          obtain ⟨lo, g, f, lsO, vR, vQ, hx6, hw6, hse, hne⟩ := HR.out.st
          have HNX : Aside0 (∀ w', Below wr.heap.size wr w' → Calls Try.prog 39 #[.agg (sCells P f vR vQ (itS code (ls0 P nc, 0) i).2), .int .i64 0] w' (fun e w'' => e = .returned (.int .i64 (-1)) ∧ Below w'.heap.size w' w'')) := ⟨fun w' hb => next_false P f (itS code (ls0 P nc, 0) i).1 vR vQ nc (itS code (ls0 P nc, 0) i).2 code pc w' (HP.out.below (below_step HR.out.be hb)) ((hw6.below hb).rs hse) hgs.si hcan⟩
          have HX6 := am hx6
          have HSTOP := am hstop
          have HCI := am hci
          clear hstop hgs hx6 hw6 hse hne hcan hci
          obtain ⟨v8, hv8⟩ : ∃ v8, v8 = Value.slice A8 i c8 := ⟨_, rfl⟩
          subst e8
          have p1 := eq_true (show (i : Int) < (200 : Int) by omega)
          clear hlt
          go_upto_region 10 with (first | ((with_reducible refine gd 34 ?_); refine wpList_load_row rfl 70 (.tmp 6) rfl b6 rfl 70 (sCells P f vR vQ (itS code (ls0 P nc, 0) i).2) (0, 0) _ HX6.out Try.underlying70 rfl size70 ?_) | (go_at_call 39; refine (HNX.out _ (Below.refl _ _)).mono ?_; rintro e W1 ⟨rfl, hb⟩; have HRn := am (HR.out.below hb); clear hb))
          clear HNX HX6 HR p1
          have HR := HRn
          clear HRn
          generalize W1 = wr at HR ⊢
          have hci := HCI.out
          have hstop := HSTOP.out
          rw [← hv8] at HR
          have HI := am hi
          have HCANI := am hci
          clear hi hci
          go_wp2_with (first | ((with_reducible refine gd 51 ?_); refine wpList_load_row rfl 26 (.tmp 2) rfl b2 rfl 26 (pCells P) (0, 0) _ HR.out.x2 Try.underlying26 rfl size26 ?_) | (go_at_call 41; refine (run_any P code pc nc _ (HP.out.below HR.out.be) HPC.out HL.out (fun w' hb' => HSO.out w' (below_step HR.out.be hb')) HG.out i HI.out (.slice A8 i c8) (IS.of_R (hv8 ▸ HR.out.p)) HCANI.out).mono ?_; rintro e W9 ⟨vO, vP, vT, evs, rfl, r1, r2, r3, r4, ⟨q1, q2, q3⟩, hb⟩; have H49 := am (blk_below HR.out.x4 hb); have HLT4 := am (blk_lt HR.out.x4); have HO1 := am r1.one; have HO2 := am r2.one; have HO3 : Aside0 (vT.oneCell' = true) := ⟨by (obtain ⟨A_, c_, e_, _⟩ := r3; rw [e_]; rfl)⟩; have HQ1 := am (And.intro r1 q1); have HQ2 := am (And.intro r2 q2); have HQ3 := am (And.intro r3 q3); have HQ4 := am r4; have HB9 := am (below_step HR.out.be hb); clear r1 r2 r3 r4 q1 q2 q3 hb) | ((with_reducible refine gs 47 4 ?_); refine store_row_event rfl 47 (.tmp 4) (.tmp 54) rfl b4 (rCells vO (statusF code pc (itS code (ls0 P nc, 0) i).1 (itS code (ls0 P nc, 0) i).2) vP vT) rfl rfl 47 _ H49.out size47 rfl (rOne _ _ _ _ HO1.out HO2.out HO3.out) rfl ?_; intro W10 hw10; have HW10 := am hw10; clear hw10))
          refine results2 rfl b4 (rCells vO (statusF code pc (itS code (ls0 P nc, 0) i).1 (itS code (ls0 P nc, 0) i).2) vP vT) (.int .i64 0) (run_loadVar_row _ b4 47 47 _ (0, 0) _ (show W10.heap[b4]? = some (.cells (rCells vO (statusF code pc (itS code (ls0 P nc, 0) i).1 (itS code (ls0 P nc, 0) i).2) vP vT) 47 (0, 0)) by rw [HW10.out]; exact setRow_heap _ _ _ _ _ _ H49.out) Try.underlying47 rfl size47) ?hp ?hr ?hd ?_
          case hp => rfl
          case hr => rfl
          case hd => rfl
          have hf : ∀ v, FRS wr.heap.size v → FRS (b4 + 1) v := fun v h A n c e => by have h1 := h A n c e; have h2 := HLT4.out; omega
          refine ⟨i, vO, vP, vT, evs, HI.out, HCANI.out, hstop, rfl, ?_, ?_, ?_, HQ4.out, ?_⟩
          · rw [HW10.out]; exact IS.row HQ1.out.1 (hf _ HQ1.out.2)
          · rw [HW10.out]; exact IS.row HQ2.out.1 (hf _ HQ2.out.2)
          · obtain ⟨A', c', e', h1, h2⟩ := HQ3.out.1
            exact ⟨A', c', e', h1, by rw [HW10.out]; exact C75_row h2 (fun a ea => by subst ea; have := hf _ HQ3.out.2 a _ _ e'; omega)⟩
          · rw [HW10.out]; exact below_rowS HB9.out HR.out.l4

    · as_aux_lemma =>
        have hi200 : i = 200 := by omega
        have HSTOP : Aside0 (i = 200 ∨ canF code pc (itS code (ls0 P nc, 0) i).1 (itS code (ls0 P nc, 0) i).2 = false) := ⟨.inl hi200⟩
        have HCI := am hci
        clear hci
        obtain ⟨v8, hv8⟩ : ∃ v8, v8 = Value.slice A8 i c8 := ⟨_, rfl⟩
        subst e8
        have p1 := eq_false (show ¬ (i : Int) < (200 : Int) by omega)
        clear hlt hi200
        have hci := HCI.out
        have hstop := HSTOP.out
        rw [← hv8] at HR
        have HI := am hi
        have HCANI := am hci
        clear hi hci
        go_wp2_with (first | ((with_reducible refine gd 51 ?_); refine wpList_load_row rfl 26 (.tmp 2) rfl b2 rfl 26 (pCells P) (0, 0) _ HR.out.x2 Try.underlying26 rfl size26 ?_) | (go_at_call 41; refine (run_any P code pc nc _ (HP.out.below HR.out.be) HPC.out HL.out (fun w' hb' => HSO.out w' (below_step HR.out.be hb')) HG.out i HI.out (.slice A8 i c8) (IS.of_R (hv8 ▸ HR.out.p)) HCANI.out).mono ?_; rintro e W9 ⟨vO, vP, vT, evs, rfl, r1, r2, r3, r4, ⟨q1, q2, q3⟩, hb⟩; have H49 := am (blk_below HR.out.x4 hb); have HLT4 := am (blk_lt HR.out.x4); have HO1 := am r1.one; have HO2 := am r2.one; have HO3 : Aside0 (vT.oneCell' = true) := ⟨by (obtain ⟨A_, c_, e_, _⟩ := r3; rw [e_]; rfl)⟩; have HQ1 := am (And.intro r1 q1); have HQ2 := am (And.intro r2 q2); have HQ3 := am (And.intro r3 q3); have HQ4 := am r4; have HB9 := am (below_step HR.out.be hb); clear r1 r2 r3 r4 q1 q2 q3 hb) | ((with_reducible refine gs 47 4 ?_); refine store_row_event rfl 47 (.tmp 4) (.tmp 54) rfl b4 (rCells vO (statusF code pc (itS code (ls0 P nc, 0) i).1 (itS code (ls0 P nc, 0) i).2) vP vT) rfl rfl 47 _ H49.out size47 rfl (rOne _ _ _ _ HO1.out HO2.out HO3.out) rfl ?_; intro W10 hw10; have HW10 := am hw10; clear hw10))
        refine results2 rfl b4 (rCells vO (statusF code pc (itS code (ls0 P nc, 0) i).1 (itS code (ls0 P nc, 0) i).2) vP vT) (.int .i64 0) (run_loadVar_row _ b4 47 47 _ (0, 0) _ (show W10.heap[b4]? = some (.cells (rCells vO (statusF code pc (itS code (ls0 P nc, 0) i).1 (itS code (ls0 P nc, 0) i).2) vP vT) 47 (0, 0)) by rw [HW10.out]; exact setRow_heap _ _ _ _ _ _ H49.out) Try.underlying47 rfl size47) ?hp ?hr ?hd ?_
        case hp => rfl
        case hr => rfl
        case hd => rfl
        have hf : ∀ v, FRS wr.heap.size v → FRS (b4 + 1) v := fun v h A n c e => by have h1 := h A n c e; have h2 := HLT4.out; omega
        refine ⟨i, vO, vP, vT, evs, HI.out, HCANI.out, hstop, rfl, ?_, ?_, ?_, HQ4.out, ?_⟩
        · rw [HW10.out]; exact IS.row HQ1.out.1 (hf _ HQ1.out.2)
        · rw [HW10.out]; exact IS.row HQ2.out.1 (hf _ HQ2.out.2)
        · obtain ⟨A', c', e', h1, h2⟩ := HQ3.out.1
          exact ⟨A', c', e', h1, by rw [HW10.out]; exact C75_row h2 (fun a ea => by subst ea; have := hf _ HQ3.out.2 a _ _ e'; omega)⟩
        · rw [HW10.out]; exact below_rowS HB9.out HR.out.l4

abbrev sE (x : S75) : Array Value := #[.int .i64 (x).f0, .int .i64 (x).f1, .int .u8 (x).f2, .int .i64 (x).f3, .int .i64 (x).f4, .int .i64 (x).f5]
theorem sEOne (x : S75) : (sE x).all (·.oneCell') = true := by
  have hi : ∀ k n, (Value.int k n).oneCell' = true := fun _ _ => rfl
  simp [sE, hi]
theorem thr0 {evs : List S75} (h : ∀ e ∈ evs, e.f0 = 0) (x : Int) (h0 : 0 ≤ x) (h1 : x < (evs.length : Int)) : (rd_T75 evs x).f0 = 0 := by
  refine h _ ?_
  unfold rd_T75
  rw [List.getD_eq_getElem?_getD, List.getElem?_eq_getElem (by omega)]
  exact List.getElem_mem _
set_option maxHeartbeats 4000000 in
set_option maxRecDepth 100000 in
theorem direct_any (P : PV) (ad : Addr) (m c : Nat) (evs : List S75) (w : World) (hC : Kd.C k75 w (some ad) m evs) (h0 : ∀ e ∈ evs, e.f0 = 0) (i j : Int) (hi : 0 ≤ i) (hij : i < j) (hj : j < (m : Int)) :
    Calls Try.prog 57 #[.agg (pCells P), .slice (some ad) m c, .int .i64 i, .int .i64 j] w (RetB w true) := by
  have hm : evs.length = m := hC.1
  have e1 := thr0 h0 i hi (by omega)
  have e2 := thr0 h0 j (by omega) (by omega)
  obtain ⟨a1, ea1, x0, x1, x2, x3, x4, x5⟩ := at_T75 hC i hi (by omega)
  obtain ⟨a2, ea2, y0, y1, y2, y3, y4, y5⟩ := at_T75 hC j (by omega) hj
  injection ea1 with ea1
  injection ea2 with ea2
  subst ea1 ea2
  have HX := am (And.intro x0 (And.intro x1 (And.intro x2 (And.intro x3 (And.intro x4 x5)))))
  have HY := am (And.intro y0 (And.intro y1 (And.intro y2 (And.intro y3 (And.intro y4 y5)))))
  have HE1 := am e1
  have HE2 := am e2
  clear x0 x1 x2 x3 x4 x5 y0 y1 y2 y3 y4 y5 e1 e2 hC h0 hm
  have p0 := eq_false (show ¬ i < 0 by omega)
  have p1 := eq_false (show ¬ j ≤ i by omega)
  have p2 := eq_false (show ¬ (m : Int) ≤ j by omega)
  have p3 := eq_true hi
  have p4 := eq_true (show i < (m : Int) by omega)
  have p5 := eq_true (show 0 ≤ j by omega)
  have p6 := eq_true hj
  clear hi hij hj
  generalize rd_T75 evs i = ei at *
  generalize rd_T75 evs j = ej at *
  go_enter Try.func57, Try.ntmps57
  go_wp2_with (first | ((with_reducible refine gd 4 ?_); refine bx 4 (pCells P) 26 ?_; intro b4 qg W qx qb; have HB := am qb; clear qg qx qb; have x0 := pw_cell_below HB.out HX.out.1; have x1 := pw_cell_below HB.out HX.out.2.1; have x2 := pw_cell_below HB.out HX.out.2.2.1; have x3 := pw_cell_below HB.out HX.out.2.2.2.1; have x4 := pw_cell_below HB.out HX.out.2.2.2.2.1; have x5 := pw_cell_below HB.out HX.out.2.2.2.2.2) | ((with_reducible refine gd 9 ?_); refine bx 9 (zE) 75 ?_; intro b9 qg W qx qb; have H9 := am qx; have HG9 := am (Nat.le_trans (below_size HB.out) (Nat.le_of_eq qg.symm)); replace HB := am (below_step HB.out qb); clear qg qx qb x0 x1 x2 x3 x4 x5) | ((with_reducible refine gs 75 9 ?_); refine store_row_event rfl 75 (.tmp 9) (.tmp 28) rfl b9 (sE ei) rfl rfl 75 _ H9.out size75 rfl (sEOne _) rfl ?_; intro W hw; replace H9 := am (show W.heap[b9]? = some (.cells (sE ei) 75 (0, 0)) by rw [hw]; exact setRow_heap _ _ _ _ _ _ H9.out); replace HB := am (show Below w.heap.size w W by rw [hw]; exact below_rowS HB.out HG9.out); clear hw; have y0 := pw_cell_below HB.out HY.out.1; have y1 := pw_cell_below HB.out HY.out.2.1; have y2 := pw_cell_below HB.out HY.out.2.2.1; have y3 := pw_cell_below HB.out HY.out.2.2.2.1; have y4 := pw_cell_below HB.out HY.out.2.2.2.2.1; have y5 := pw_cell_below HB.out HY.out.2.2.2.2.2) | ((with_reducible refine gd 10 ?_); refine bx 10 (zE) 75 ?_; intro b10 qg W qx qb; have H10 := am qx; have HG10 := am (Nat.le_trans (below_size HB.out) (Nat.le_of_eq qg.symm)); have HN := am (Nat.ne_of_lt (Nat.lt_of_lt_of_le (blk_lt H9.out) (Nat.le_of_eq qg.symm))); replace H9 := am (blk_below H9.out qb); replace HB := am (below_step HB.out qb); clear qg qx qb y0 y1 y2 y3 y4 y5) | ((with_reducible refine gs 75 10 ?_); refine store_row_event rfl 75 (.tmp 10) (.tmp 32) rfl b10 (sE ej) rfl rfl 75 _ H10.out size75 rfl (sEOne _) rfl ?_; intro W hw; replace H9 := am (show W.heap[b9]? = some (.cells (sE ei) 75 (0, 0)) by rw [hw]; exact (setRow_other _ _ _ _ HN.out).trans H9.out); replace H10 := am (show W.heap[b10]? = some (.cells (sE ej) 75 (0, 0)) by rw [hw]; exact setRow_heap _ _ _ _ _ _ H10.out); replace HB := am (show Below w.heap.size w W by rw [hw]; exact below_rowS HB.out HG10.out); clear hw; have u0 : W.cell? ⟨b9, 0, none⟩ = some (.int .i64 ei.f0) := blk_cell H9.out 0; have u1 : W.cell? ⟨b10, 0, none⟩ = some (.int .i64 ej.f0) := blk_cell H10.out 0; rw [HE1.out] at u0; rw [HE2.out] at u1))
  go_ret
  exact ⟨rfl, HB.out⟩
set_option maxHeartbeats 8000000 in
set_option maxRecDepth 100000 in
theorem marks_any (P : PV) (ad : Addr) (m c : Nat) (evs : List S75) (w : World) (hC : Kd.C k75 w (some ad) m evs) (h0 : ∀ e ∈ evs, e.f0 = 0) (hm2 : m ≤ 200) (hPO : (pCells P).all (·.oneCell') = true) (j : Int) (hj0 : 0 ≤ j) (hj : j < (m : Int)) :
    Calls Try.prog 42 #[.agg (pCells P), .slice (some ad) m c, .int .i64 j] w (fun e w' => ∃ v, e = .returned v ∧ Below w.heap.size w w') := by
  have HC := am hC
  have H0 := am h0
  have HM := am hm2
  have HJ := am (And.intro hj0 hj)
  have p0 := eq_false (show ¬ j < 0 by omega)
  have p1 := eq_false (show ¬ (m : Int) ≤ j by omega)
  have HW1 : Aside0 (wrap64 (j - 1) = j - 1) := ⟨by unfold wrap64; omega⟩
  clear hC h0 hm2 hj0 hj
  go_enter Try.func42, Try.ntmps42
  go_upto_region 4 with (first | ((with_reducible refine gd 3 ?_); refine bx 3 (pCells P) 26 ?_; intro b3 qg W qx qb; have HX := am qx; have HB := am qb; clear qg qx qb) | ((with_reducible refine gd 12 ?_); refine Kd.R_make (Kd.int .i64) (w0 := w) w.heap.size 3 rfl (N := 12) rfl 23 (.tmp 11) (.tmp 11) rfl (m : Int) rfl rfl Try.underlying23 (.int .i64 0) 8 info3 rfl (by decide) (by decide) (0 : Int) (ok := fun _ => True) (okp := fun _ => False) rfl (fun _ h => h.elim) trivial (by omega) (by have := HM.out; omega) HB.out (below_size HB.out) ?_; intro vM W2 hr hb hg _; have HMR := am hr; replace HX := am (blk_grown HX.out hg (by simp)); replace HB := am hb; clear hr hb hg))
  rw [Int.toNat_natCast] at HMR
  obtain ⟨AM, cM, eM⟩ := Kd.R_slice HMR.out
  rw [List.length_replicate] at eM
  subst eM
  have R0 : Aside0 (∃ out : List Int, Row W2 w.heap.size (.slice AM m cM) out ∧ out.length = m) := ⟨⟨_, R_self HMR.out, List.length_replicate ..⟩⟩
  clear HMR
  go_wp2
  rw [HW1.out]
  go_loopw [8] (fun v8 wr => ∃ i : Int, -1 ≤ i ∧ i < j ∧ v8 = .int .i64 i ∧ Aside0 (wr.heap[b3]? = some (.cells (pCells P) 26 (0, 0)) ∧ Below w.heap.size w wr) ∧ Aside0 (∃ out : List Int, Row wr w.heap.size (.slice AM m cM) out ∧ out.length = m)) (fun v8 _ => ((intOf v8) + 1).toNat)
  case atStart => exact ⟨j - 1, by have := HJ.out; omega, by omega, rfl, ⟨HX.out, HB.out⟩, R0⟩
  case round =>
    clear HX HB R0
    obtain ⟨i, hi1, hi2, rfl, HXB, HR⟩ := hrel
    have HXr := am HXB.out.1
    have HBr := am HXB.out.2
    clear HXB
    by_cases hneg : i < 0
    · as_aux_lemma =>
        obtain rfl : i = -1 := by omega
        clear hi1 hi2 hneg
        go_wp2
        go_ret
        exact ⟨_, rfl, HBr.out⟩
    · as_aux_lemma =>
        have HI := am (And.intro (show 0 ≤ i by omega) hi2)
        obtain ⟨out, ho1, ho2⟩ := HR.out
        obtain ⟨gM, c', eM, _, _⟩ := row_at ho1 i (by omega) (by have := HJ.out; omega)
        injection eM with eA eB eC
        clear eB eC
        subst eA
        have HO := am ho1
        have HO2 := am ho2
        have p2 := eq_true (show (0 : Int) ≤ i by omega)
        have p3 := eq_true (show i < (m : Int) by have := HJ.out; omega)
        have HW2 : Aside0 (wrap64 (i + 1) = i + 1) := ⟨by have := HJ.out; have := HM.out; unfold wrap64; omega⟩
        have HW3 : Aside0 (wrap64 (i - 1) = i - 1) := ⟨by have := HJ.out; have := HM.out; unfold wrap64; omega⟩
        clear hi1 hi2 hneg ho1 ho2 HR
        go_wp2_with (first | ((with_reducible refine gd 28 ?_); refine wpList_load_row rfl 26 (.tmp 3) rfl b3 rfl 26 (pCells P) (0, 0) _ HXr.out Try.underlying26 rfl size26 ?_) | (go_at_call 57; refine (direct_any P ad m c evs _ (Kd.C_below HC.out HBr.out) H0.out i j HI.out.1 HI.out.2 HJ.out.2).mono ?_; rintro e W4 ⟨rfl, hb⟩; have HX4 := am (blk_below HXr.out hb); have HB4 := am (below_step HBr.out hb); have HO4 := am (show Row W4 w.heap.size (.slice (some ⟨gM, 0, none⟩) m cM) out from Kd.R_below HO.out hb); clear hb; obtain ⟨z0, z1⟩ := Kd.R_celln (0 : Int) HO4.out i HI.out.1 (by have := HI.out; have := HJ.out; omega)) | ((with_reducible refine gs 3 35 ?_); refine sv (W4.setCell ⟨gM, i.toNat, none⟩ (.int .i64 1)) ?_; intro W5 hw; clear z0 z1; have HO5 := am (show Row W5 w.heap.size (.slice (some ⟨gM, 0, none⟩) m cM) (out.set i.toNat 1) by rw [hw]; exact (Kd.R_putg HO4.out i 1).1); have HX5 := am (show W5.heap[b3]? = some (.cells (pCells P) 26 (0, 0)) by rw [hw]; exact blk_far HX4.out (by obtain ⟨c1, h1⟩ := own_block HO4.out (k := gM) rfl; exact blk_ne HX4.out h1 (by decide)) _); have HB5 := am (show Below w.heap.size w W5 by rw [hw]; exact HB4.out.setCell (Kd.R_base HO4.out gM rfl) _); clear hw))
        rw [HW2.out]
        go_loopw [9] (fun v9 wr => v9 = .int .i64 (i + 1) ∧ Aside0 (Row wr w.heap.size (.slice (some ⟨gM, 0, none⟩) m cM) (out.set i.toNat 1) ∧ wr.heap[b3]? = some (.cells (pCells P) 26 (0, 0)) ∧ Below w.heap.size w wr)) (fun _ _ => 0)
        case atStart => exact ⟨rfl, ⟨HO5.out, HX5.out, HB5.out⟩⟩
        case round =>
          clear HO5 HX5 HB5 HX4 HB4 HO4
          obtain ⟨rfl, HQ⟩ := hrel
          have z0 : wr.cell? ⟨gM, i.toNat, none⟩ = some (.int .i64 1) := by
            have h := (Kd.R_celln (0 : Int) HQ.out.1 i HI.out.1 (by have := HI.out; have := HJ.out; omega)).1
            rw [h]
            congr 2
            unfold rdOf
            rw [List.getD_eq_getElem?_getD, List.getElem?_set, if_pos rfl, if_pos (by have := HI.out; have := HJ.out; have := HO2.out; omega)]
            rfl
          have hk : (i + 1 < j) = True ∨ (i + 1 < j) = False := by
            by_cases h : i + 1 < j
            · exact .inl (eq_true h)
            · exact .inr (eq_false h)
          rcases hk with hk | hk
          all_goals
            go_wp2
            go_roundw
            case rel => exact ⟨i - 1, by have := HI.out; omega, by have := HI.out; omega, by rw [HW3.out], ⟨HQ.out.2.1, HQ.out.2.2⟩, ⟨_, HQ.out.1, by rw [List.length_set]; exact HO2.out⟩⟩
            case measure => rw [HW3.out]; have := HI.out; simp [intOf]; omega
end Go.Proofs.Yticdodbnjlnjlaa.P
