import Derived.StillTailTactics
import Derived.Test.YticdodbnjlnjlaaVc
namespace Go.Proofs.Yticdodbnjlnjlaa.P
open Go.RowKit Go.Proofs.YticdodbnjlnjlaaW.PrintWords Go.Proofs.YticdodbnjlnjlaaW.PrintLast Go.Proofs.YticdodbnjlnjlaaW.PrintMore
attribute [local go_sem] max2_int min2_int max_two min_two max_three min_three max_four min_four
attribute [local irreducible] Calls
set_option linter.unusedVariables false
set_option linter.unusedSimpArgs false
set_option maxHeartbeats 4000000 in
set_option maxRecDepth 100000 in
theorem next_true (P : PV) (f : Nat → Value) (ls : Nat → List Int) (vR vQ : Value) (nc : Nat) (tr : Int) (code : List S33) (pc : List Int) (w : World) (hP : PF w P code pc) (h : RS w f ls vR vQ nc) (hI : SI nc code pc ls) (hc : canF code pc ls tr = true) : Calls Try.prog 39 #[.agg (sCells P f vR vQ tr), .int .i64 0] w (fun e w' => e = .returned (.int .i64 (0)) ∧ Below w.heap.size w w') := by
  have HP := am hP
  have HS := am h
  have HSI := am hI
  clear hP h hI
  obtain ⟨a0, c0, e0, hc0⟩ := (HS.out.row 0).at1 HSI.out.h0
  have HE0 := am e0
  clear e0
  have HCAN := am hc
  clear hc
  go_enter Try.func39, Try.ntmps39
  go_upto_region 2 with ((with_reducible refine gd 2 ?_); refine bx 2 (sCells P f vR vQ tr) 70 ?_; intro b qg W qx qb; have HX := am (show Box W b P f vR vQ tr from qx); have HB := am qb; clear qg qx qb; have x7 := Box.at7 HX.out; rw [HE0.out] at x7)
  clear x7
  go_wp2
  go_loopw [6] (fun v6 wr => ∃ i : Nat, i = 1 ∧ v6 = .int .i64 (i : Int) ∧ Aside0 (Box wr b P f vR vQ tr) ∧ Aside0 (Below w.heap.size w wr)) (fun v6 _ => 3 - (intOf v6).toNat)
  case atStart => exact ⟨1, rfl, rfl, HX, HB⟩
  case round =>
    clear HX HB
    obtain ⟨i, hi, rfl, HX, HB⟩ := hrel
    subst hi
    go_wp2_with (first | ((with_reducible refine gd 21 ?_); refine wpList_load_row rfl 70 (.tmp 2) rfl b rfl 70 (sCells P f vR vQ tr) (0, 0) _ HX.out Try.underlying70 rfl size70 ?_) | (go_at_call 52; refine (can_any P f ls vR vQ nc tr code pc _ (HP.out.below HB.out) (HS.out.below HB.out) HSI.out).mono ?_; rintro e W ⟨he, hb⟩; rw [HCAN.out] at he; subst he; replace HX := am (blk_below HX.out hb); replace HB := am (below_step HB.out hb); clear hb))
    go_ret
    exact ⟨rfl, HB.out⟩
set_option maxHeartbeats 4000000 in
set_option maxRecDepth 100000 in
theorem next_false (P : PV) (f : Nat → Value) (ls : Nat → List Int) (vR vQ : Value) (nc : Nat) (tr : Int) (code : List S33) (pc : List Int) (w : World) (hP : PF w P code pc) (h : RS w f ls vR vQ nc) (hI : SI nc code pc ls) (hc : canF code pc ls tr = false) : Calls Try.prog 39 #[.agg (sCells P f vR vQ tr), .int .i64 0] w (fun e w' => e = .returned (.int .i64 (-1)) ∧ Below w.heap.size w w') := by
  have HP := am hP
  have HS := am h
  have HSI := am hI
  clear hP h hI
  obtain ⟨a0, c0, e0, hc0⟩ := (HS.out.row 0).at1 HSI.out.h0
  have HE0 := am e0
  clear e0
  have HCAN := am hc
  clear hc
  go_enter Try.func39, Try.ntmps39
  go_upto_region 2 with ((with_reducible refine gd 2 ?_); refine bx 2 (sCells P f vR vQ tr) 70 ?_; intro b qg W qx qb; have HX := am (show Box W b P f vR vQ tr from qx); have HB := am qb; clear qg qx qb; have x7 := Box.at7 HX.out; rw [HE0.out] at x7)
  clear x7
  go_wp2
  go_loopw [6] (fun v6 wr => ∃ i : Nat, (i = 1 ∨ i = 2) ∧ v6 = .int .i64 (i : Int) ∧ Aside0 (Box wr b P f vR vQ tr) ∧ Aside0 (Below w.heap.size w wr)) (fun v6 _ => 3 - (intOf v6).toNat)
  case atStart => exact ⟨1, .inl rfl, rfl, HX, HB⟩
  case round =>
    clear HX HB
    obtain ⟨i, hi, rfl, HX, HB⟩ := hrel
    rcases hi with rfl | rfl
    · go_wp2_with (first | ((with_reducible refine gd 21 ?_); refine wpList_load_row rfl 70 (.tmp 2) rfl b rfl 70 (sCells P f vR vQ tr) (0, 0) _ HX.out Try.underlying70 rfl size70 ?_) | (go_at_call 52; refine (can_any P f ls vR vQ nc tr code pc _ (HP.out.below HB.out) (HS.out.below HB.out) HSI.out).mono ?_; rintro e W ⟨he, hb⟩; rw [HCAN.out] at he; subst he; replace HX := am (blk_below HX.out hb); replace HB := am (below_step HB.out hb); clear hb))
      go_roundw
      case rel => exact ⟨2, .inr rfl, by go_num, HX, HB⟩
      case measure => simp [intOf]
    · go_wp2
      go_ret
      exact ⟨rfl, HB.out⟩
def statusF (code : List S33) (pc : List Int) (ls : Nat → List Int) (tr : Int) : Int := if tr = 1 then 3 else if canF code pc ls tr = true then 0 else if code.length ≤ atOf ls then 1 else 2
set_option maxHeartbeats 8000000 in
set_option maxRecDepth 100000 in
theorem status_any (P : PV) (f : Nat → Value) (ls : Nat → List Int) (vR vQ : Value) (nc : Nat) (tr : Int) (code : List S33) (pc : List Int) (w : World) (hP : PF w P code pc) (h : RS w f ls vR vQ nc) (hI : SI nc code pc ls) : Calls Try.prog 56 #[.agg (sCells P f vR vQ tr)] w (fun e w' => e = .returned (.int .u8 (statusF code pc ls tr)) ∧ Below w.heap.size w w') := by
  have HP := am hP
  have HS := am h
  have HSI := am hI
  clear hP h hI
  obtain ⟨a0, c0, e0, hc0⟩ := (HS.out.row 0).at1 HSI.out.h0
  have HE0 := am e0
  clear e0
  obtain ⟨a1, c1, e1, hc1⟩ := (HS.out.row 1).at1 (by rw [HSI.out.h1]; rfl)
  have HE1 := am e1
  clear e1
  rw [show rd (ls 1) 0 = 1 by rw [HSI.out.h1]; rfl] at hc1
  obtain ⟨aT, cT, Ac, cc, eT, _, hct, hcn, _⟩ := HP.out.t
  have HET := am eT
  clear eT hcn
  obtain ⟨r, hr⟩ : ∃ r, r = statusF code pc ls tr := ⟨_, rfl⟩
  rw [← hr]
  have HR := am hr
  clear hr
  by_cases ht : tr = 1
  · as_aux_lemma =>
    subst ht
    have HRE : Aside0 (r = 3) := ⟨by rw [HR.out]; unfold statusF; rw [if_pos rfl]⟩
    go_enter Try.func56, Try.ntmps56
    go_wp2_with ((with_reducible refine gd 1 ?_); refine bx 1 (sCells P f vR vQ 1) 70 ?_; intro b qg W qx qb; have HX := am (show Box W b P f vR vQ 1 from qx); have HB := am qb; clear qg qx qb; have x18 := Box.at18 HX.out)
    go_ret
    exact ⟨by rw [HRE.out]; rfl, HB.out⟩
  have b18 : (tr == 1) = false := beq_eq_false_iff_ne.2 ht
  have HTR := am ht
  clear ht
  have HCC := am (show canF code pc ls tr = true ∨ canF code pc ls tr = false by cases canF code pc ls tr <;> simp)
  rcases HCC.out with hcan | hcan
  · as_aux_lemma =>
    have HCAN := am hcan
    have HRE : Aside0 (r = 0) := ⟨by rw [HR.out]; unfold statusF; rw [if_neg HTR.out, if_pos hcan]⟩
    clear hcan
    go_enter Try.func56, Try.ntmps56
    go_upto_region 4 with ((with_reducible refine gd 1 ?_); refine bx 1 (sCells P f vR vQ tr) 70 ?_; intro b qg W qx qb; have HX := am (show Box W b P f vR vQ tr from qx); have HB := am qb; clear qg qx qb; have x18 := Box.at18 HX.out)
    clear x18
    go_wp2
    go_loopw [4] (fun v4 wr => v4 = .int .i64 0 ∧ Aside0 (Box wr b P f vR vQ tr) ∧ Aside0 (Below w.heap.size w wr)) (fun v4 _ => 1 - (intOf v4).toNat)
    case atStart => exact ⟨rfl, HX, HB⟩
    case round =>
      clear HX HB
      obtain ⟨rfl, HX, HB⟩ := hrel
      have x7 := Box.at7 HX.out
      rw [HE0.out] at x7
      go_wp2_with (first | ((with_reducible refine gd 15 ?_); refine wpList_load_row rfl 70 (.tmp 1) rfl b rfl 70 (sCells P f vR vQ tr) (0, 0) _ HX.out Try.underlying70 rfl size70 ?_) | (go_at_call 52; refine (can_any P f ls vR vQ nc tr code pc _ (HP.out.below HB.out) (HS.out.below HB.out) HSI.out).mono ?_; rintro e W ⟨he, hb⟩; rw [HCAN.out] at he; subst he; replace HX := am (blk_below HX.out hb); replace HB := am (below_step HB.out hb); clear hb))
      go_ret
      exact ⟨by rw [HRE.out]; rfl, HB.out⟩
  · as_aux_lemma =>
    have HCAN := am hcan
    by_cases hA : code.length ≤ atOf ls
    · as_aux_lemma =>
      have HA := am hA
      have HAT := am HSI.out.at0
      clear hA
      go_enter Try.func56, Try.ntmps56
      go_upto_region 4 with ((with_reducible refine gd 1 ?_); refine bx 1 (sCells P f vR vQ tr) 70 ?_; intro b qg W qx qb; have HX := am (show Box W b P f vR vQ tr from qx); have HB := am qb; clear qg qx qb; have x18 := Box.at18 HX.out)
      clear x18
      go_wp2
      go_loopw [3, 4] (fun v3 v4 wr => ∃ i : Nat, (i = 0 ∨ i = 1) ∧ v4 = .int .i64 (i : Int) ∧ v3 = .bool (if i = 0 then true else decide (code.length ≤ atOf ls)) ∧ Aside0 (Box wr b P f vR vQ tr) ∧ Aside0 (Below w.heap.size w wr)) (fun _ v4 _ => 1 - (intOf v4).toNat)
      case atStart => exact ⟨0, .inl rfl, rfl, rfl, HX, HB⟩
      case round =>
        clear HX HB
        obtain ⟨i, hi, rfl, rfl, HX, HB⟩ := hrel
        have x7 := Box.at7 HX.out
        rw [HE0.out] at x7
        rcases hi with rfl | rfl
        · go_wp2_with (first | ((with_reducible refine gd 15 ?_); refine wpList_load_row rfl 70 (.tmp 1) rfl b rfl 70 (sCells P f vR vQ tr) (0, 0) _ HX.out Try.underlying70 rfl size70 ?_) | (go_at_call 52; refine (can_any P f ls vR vQ nc tr code pc _ (HP.out.below HB.out) (HS.out.below HB.out) HSI.out).mono ?_; rintro e W ⟨he, hb⟩; rw [HCAN.out] at he; subst he; replace HX := am (blk_below HX.out hb); replace HB := am (below_step HB.out hb); clear hb; have x6 := Box.at6 HX.out; have x7 := Box.at7 HX.out; have x8 := Box.at8 HX.out; rw [HET.out] at x6; rw [HE0.out] at x7; rw [HE1.out] at x8; have hd0 := pw_cell_below HB.out hc0; have hd1 := pw_cell_below HB.out hc1; have hdt := pw_cell_below HB.out hct))
          have z1 : (rd (ls 0) 0 < (code.length : Int)) = False := eq_false (by have := HA.out; have := HAT.out; unfold atOf at *; omega)
          go_quiet (fail)
          go_wp2
          go_roundw
          case rel => exact ⟨1, .inr rfl, by go_num, by (have := HA.out; simp [this]), ⟨blk_below HX.out (pw_below_drewN (Below.refl _ _) _)⟩, ⟨pw_below_drewN HB.out _⟩⟩
          case measure => simp [intOf]
        · have z2 : decide (code.length ≤ atOf ls) = true := by (have := HA.out; simp [this])
          simp only [z2, if_neg (show ¬ (1 : Nat) = 0 by decide)]
          go_wp2
          go_ret
          exact ⟨by rw [HR.out]; unfold statusF; rw [if_neg HTR.out, HCAN.out, if_neg (by decide)]; first | (rw [if_pos HA.out]; rfl) | (rw [if_neg HA.out]; rfl), HB.out⟩
    · as_aux_lemma =>
      have HA := am hA
      have HAT := am HSI.out.at0
      clear hA
      go_enter Try.func56, Try.ntmps56
      go_upto_region 4 with ((with_reducible refine gd 1 ?_); refine bx 1 (sCells P f vR vQ tr) 70 ?_; intro b qg W qx qb; have HX := am (show Box W b P f vR vQ tr from qx); have HB := am qb; clear qg qx qb; have x18 := Box.at18 HX.out)
      clear x18
      go_wp2
      go_loopw [3, 4] (fun v3 v4 wr => ∃ i : Nat, (i = 0 ∨ i = 1) ∧ v4 = .int .i64 (i : Int) ∧ v3 = .bool (if i = 0 then true else decide (code.length ≤ atOf ls)) ∧ Aside0 (Box wr b P f vR vQ tr) ∧ Aside0 (Below w.heap.size w wr)) (fun _ v4 _ => 1 - (intOf v4).toNat)
      case atStart => exact ⟨0, .inl rfl, rfl, rfl, HX, HB⟩
      case round =>
        clear HX HB
        obtain ⟨i, hi, rfl, rfl, HX, HB⟩ := hrel
        have x7 := Box.at7 HX.out
        rw [HE0.out] at x7
        rcases hi with rfl | rfl
        · go_wp2_with (first | ((with_reducible refine gd 15 ?_); refine wpList_load_row rfl 70 (.tmp 1) rfl b rfl 70 (sCells P f vR vQ tr) (0, 0) _ HX.out Try.underlying70 rfl size70 ?_) | (go_at_call 52; refine (can_any P f ls vR vQ nc tr code pc _ (HP.out.below HB.out) (HS.out.below HB.out) HSI.out).mono ?_; rintro e W ⟨he, hb⟩; rw [HCAN.out] at he; subst he; replace HX := am (blk_below HX.out hb); replace HB := am (below_step HB.out hb); clear hb; have x6 := Box.at6 HX.out; have x7 := Box.at7 HX.out; have x8 := Box.at8 HX.out; rw [HET.out] at x6; rw [HE0.out] at x7; rw [HE1.out] at x8; have hd0 := pw_cell_below HB.out hc0; have hd1 := pw_cell_below HB.out hc1; have hdt := pw_cell_below HB.out hct))
          have z1 : (rd (ls 0) 0 < (code.length : Int)) = True := eq_true (by have := HA.out; have := HAT.out; unfold atOf at *; omega)
          go_quiet (fail)
          go_wp2
          go_roundw
          case rel => exact ⟨1, .inr rfl, by go_num, by (have := HA.out; simp [this]), ⟨blk_below HX.out (pw_below_drewN (Below.refl _ _) _)⟩, ⟨pw_below_drewN HB.out _⟩⟩
          case measure => simp [intOf]
        · have z2 : decide (code.length ≤ atOf ls) = false := by (have := HA.out; simp [this])
          simp only [z2, if_neg (show ¬ (1 : Nat) = 0 by decide)]
          go_wp2
          go_ret
          exact ⟨by rw [HR.out]; unfold statusF; rw [if_neg HTR.out, HCAN.out, if_neg (by decide)]; first | (rw [if_pos HA.out]; rfl) | (rw [if_neg HA.out]; rfl), HB.out⟩
/-! What stays while a program of one thread goes on. -/
def stS (code : List S33) (s : (Nat → List Int) × Int) : (Nat → List Int) × Int := stepF s.1 s.2 (code.getD (atOf s.1) z33)
def itS (code : List S33) (s : (Nat → List Int) × Int) : Nat → (Nat → List Int) × Int
  | 0 => s
  | n + 1 => stS code (itS code s n)
structure GS (nc : Nat) (code : List S33) (pc : List Int) (ls : Nat → List Int) (B : Nat) : Prop where
  si : SI nc code pc ls
  un : ∀ j, ls j ≠ [] → D9 j = true ∨ j = 2 ∨ (12 ≤ j ∧ j < 12 + nc)
  len : ∀ j, (ls j).length ≤ B
structure CH (nc : Nat) (ls L : Nat → List Int) : Prop where
  same : ∀ j, j < 11 → (L j).length = (ls j).length
  one : L 1 = ls 1
  le : ∀ j, (L j).length ≤ (ls j).length + 1
  un : ∀ j, L j ≠ [] → ls j ≠ [] ∨ j = 11 ∨ (12 ≤ j ∧ j < 12 + nc)
theorem CH.refl (nc : Nat) (ls : Nat → List Int) : CH nc ls ls := ⟨fun _ _ => rfl, rfl, fun j => by omega, fun _ h => .inl h⟩
theorem CH.st {nc : Nat} {ls L : Nat → List Int} (h : CH nc ls L) (j : Nat) (x v : Int) (hj : j ≠ 1) : CH nc ls (st L j x v) := by
  refine ⟨fun q hq => by rw [len_st]; exact h.same q hq, by rw [st_at _ _ _ _ (Ne.symm hj)]; exact h.one, fun q => by rw [len_st]; exact h.le q, fun q hq => h.un q (fun e => hq ?_)⟩
  exact List.eq_nil_of_length_eq_zero (by rw [len_st, e]; rfl)
theorem CH.tail {nc : Nat} {ls L : Nat → List Int} (h : CH nc ls L) (q : Nat) {x : Int} {t : List Int} (e : L (12 + q) = x :: t) : CH nc ls (up L (12 + q) t) := by
  refine ⟨fun j hj => by rw [up_ne _ _ _ (by omega)]; exact h.same j hj, by rw [up_ne _ _ _ (by omega)]; exact h.one, fun j => ?_, fun j hj => ?_⟩
  · by_cases hq : j = 12 + q
    · subst hq
      rw [up_same]
      have := h.le (12 + q)
      rw [e, List.length_cons] at this
      omega
    · rw [up_ne _ _ _ hq]; exact h.le j
  · by_cases hq : j = 12 + q
    · subst hq
      exact h.un (12 + q) (by rw [e]; simp)
    · rw [up_ne _ _ _ hq] at hj; exact h.un j hj
theorem CH.taken {nc : Nat} (ls : Nat → List Int) (i : S33) : CH nc ls (takenF ls i) := by
  have h := CH.refl nc ls
  unfold takenF
  split
  · exact h.st _ _ _ (by decide)
  · split
    · exact (h.st _ _ _ (by decide)).st _ _ _ (by decide)
    · split
      · split
        · exact (h.st _ _ _ (by decide)).st _ _ _ (by decide)
        · exact h.st _ _ _ (by decide)
      · split
        · next e =>
          split
          · exact ((h.tail _ e).st _ _ _ (by decide)).st _ _ _ (by decide)
          · exact (h.tail _ e).st _ _ _ (by decide)
        · split
          · exact (h.st _ _ _ (by decide)).st _ _ _ (by decide)
          · exact h.st _ _ _ (by decide)
theorem CH.sync {nc n : Nat} (ls : Nat → List Int) (tr : Int) (i : S33) (hok : okI n ls i) (h8 : (ls 8).length = nc) : CH nc ls (syncF ls tr i).1 := by
  have h := CH.refl nc ls
  unfold syncF
  by_cases c0 : i.f0 = 0
  · rw [if_pos c0]; exact h
  rw [if_neg c0]
  by_cases c25 : i.f0 = 25
  · rw [if_pos c25]; exact h
  rw [if_neg c25]
  by_cases c13 : i.f0 = 13
  · rw [if_pos c13]; exact h.st _ _ _ (by decide)
  rw [if_neg c13]
  by_cases c14 : i.f0 = 14
  · rw [if_pos c14]; split
    · exact h.st _ _ _ (by decide)
    · exact h
  rw [if_neg c14]
  by_cases c15 : i.f0 = 15
  · rw [if_pos c15]; exact h.st _ _ _ (by decide)
  rw [if_neg c15]
  by_cases c16 : i.f0 = 16
  · rw [if_pos c16]; split
    · exact h
    · exact h.st _ _ _ (by decide)
  rw [if_neg c16]
  by_cases c18 : i.f0 = 18
  · rw [if_pos c18]; exact h.st _ _ _ (by decide)
  rw [if_neg c18]
  by_cases c24 : i.f0 = 24
  · rw [if_pos c24]; split
    · exact h
    · exact h.st _ _ _ (by decide)
  rw [if_neg c24]
  by_cases c27 : i.f0 = 27
  · rw [if_pos c27]; split
    · exact h.st _ _ _ (by decide)
    · exact h
  rw [if_neg c27]
  by_cases c20 : i.f0 = 20
  · rw [if_pos c20]
    split
    · obtain ⟨q0, q1⟩ := hok.q1 (by rw [c20]; simp)
      rw [h8] at q1
      show CH nc ls (up ls (12 + i.f1.toNat) (ls (12 + i.f1.toNat) ++ [rd (ls 2) i.f2]))
      refine ⟨fun j hj => by rw [up_ne _ _ _ (by omega)], by rw [up_ne _ _ _ (by omega)], fun j => ?_, fun j hj => ?_⟩
      · by_cases hq : j = 12 + i.f1.toNat
        · subst hq; rw [up_same, List.length_append]; simp
        · rw [up_ne _ _ _ hq]; omega
      · by_cases hq : j = 12 + i.f1.toNat
        · exact .inr (.inr (by omega))
        · rw [up_ne _ _ _ hq] at hj; exact .inl hj
    · exact h
  rw [if_neg c20]
  by_cases c23 : i.f0 = 23
  · rw [if_pos c23]; exact h.st _ _ _ (by decide)
  rw [if_neg c23]
  exact CH.taken ls i
theorem CH.trans_at {nc : Nat} {ls L M : Nat → List Int} (h : CH nc L M) (e : ∀ j, (L j).length = (ls j).length) (e1 : L 1 = ls 1) : CH nc ls M :=
  ⟨fun j hj => (h.same j hj).trans (e j), h.one.trans e1, fun j => by have := h.le j; rw [e j] at this; exact this, fun j hj => by
    rcases h.un j hj with h1 | h1
    · exact .inl (fun c => h1 (List.eq_nil_of_length_eq_zero (by rw [e j, c]; rfl)))
    · exact .inr h1⟩
theorem CH.step {nc n : Nat} (ls : Nat → List Int) (tr : Int) (i : S33) (hok : okI n ls i) (h8 : (ls 8).length = nc) : CH nc ls (stepF ls tr i).1 := by
  have h0 : CH nc ls (Go.Proofs.Yticdodbnjlnjlaa.P.st ls 0 0 (wrap64 (rd (ls 0) 0 + 1))) := (CH.refl nc ls).st _ _ _ (by decide)
  unfold stepF
  by_cases c1 : i.f0 = 1
  · rw [if_pos c1]; exact h0.st _ _ _ (by decide)
  rw [if_neg c1]
  by_cases c2 : i.f0 = 2
  · rw [if_pos c2]; exact h0.st _ _ _ (by decide)
  rw [if_neg c2]
  by_cases c3 : i.f0 = 3
  · rw [if_pos c3]; exact h0.st _ _ _ (by decide)
  rw [if_neg c3]
  by_cases c4 : i.f0 = 4
  · rw [if_pos c4]; exact h0.st _ _ _ (by decide)
  rw [if_neg c4]
  by_cases c5 : i.f0 = 5
  · rw [if_pos c5]; exact h0.st _ _ _ (by decide)
  rw [if_neg c5]
  by_cases c6 : i.f0 = 6
  · rw [if_pos c6]; exact h0.st _ _ _ (by decide)
  rw [if_neg c6]
  by_cases c7 : i.f0 = 7
  · rw [if_pos c7]; exact h0.st _ _ _ (by decide)
  rw [if_neg c7]
  by_cases c8 : i.f0 = 8
  · rw [if_pos c8]; exact h0.st _ _ _ (by decide)
  rw [if_neg c8]
  by_cases c9 : i.f0 = 9
  · rw [if_pos c9]
    show CH nc ls (up (Go.Proofs.Yticdodbnjlnjlaa.P.st ls 0 0 (wrap64 (rd (ls 0) 0 + 1))) 11 (ls 11 ++ [rd (ls 2) i.f1]))
    refine ⟨fun j hj => by rw [up_ne _ _ _ (by omega)]; exact h0.same j hj, by rw [up_ne _ _ _ (by omega)]; exact h0.one, fun j => ?_, fun j hj => ?_⟩
    · by_cases hq : j = 11
      · subst hq; rw [up_same, List.length_append]; simp
      · rw [up_ne _ _ _ hq]; exact h0.le j
    · by_cases hq : j = 11
      · exact .inr (.inl hq)
      · rw [up_ne _ _ _ hq] at hj; exact h0.un j hj
  rw [if_neg c9]
  by_cases c10 : i.f0 = 10
  · rw [if_pos c10]; exact h0.st _ _ _ (by decide)
  rw [if_neg c10]
  by_cases c11 : i.f0 = 11
  · rw [if_pos c11]; split
    · exact h0.st _ _ _ (by decide)
    · exact h0
  rw [if_neg c11]
  exact CH.trans_at (CH.sync _ tr i (okI.congr hok (fun j _ => len_st ls 0 0 _ j)) (by rw [len_st]; exact h8)) (fun j => len_st ls 0 0 _ j) (st_at _ _ _ _ (by decide))
theorem okI.congr2 {n : Nat} {ls L : Nat → List Int} {i : S33} (h : okI n ls i) (e : ∀ j, j < 11 → (L j).length = (ls j).length) : okI n L i := by
  obtain ⟨a1, a2, a3, a4, a5, a6, a7, a8, a9, a10, a11, a12, a13, a14, a15, a16, a17, a18⟩ := h
  refine ⟨a1, a2, a3, ?_, ?_, ?_, ?_, ?_, a9, a10, ?_, ?_, ?_, ?_, ?_, ?_, ?_, ?_⟩ <;> (simp only [e 2 (by decide), e 4 (by decide), e 5 (by decide), e 6 (by decide), e 8 (by decide), e 9 (by decide), e 10 (by decide)]; assumption)
theorem taken_zero (ls : Nat → List Int) (i : S33) : takenF ls i 0 = ls 0 := by
  unfold takenF
  split
  · rfl
  · split
    · rfl
    · split
      · split <;> rfl
      · have hne : (0 : Nat) ≠ 12 + i.f2.toNat := by omega
        cases hq : ls (12 + i.f2.toNat) with
        | cons x t =>
          simp only []
          split
          · rw [st_at _ _ _ _ (by decide), st_at _ _ _ _ (by decide), up_ne _ _ _ hne]
          · rw [st_at _ _ _ _ (by decide), up_ne _ _ _ hne]
        | nil =>
          simp only []
          split <;> rfl
theorem sync_zero (ls : Nat → List Int) (tr : Int) (i : S33) : (syncF ls tr i).1 0 = ls 0 := by
  unfold syncF
  by_cases c0 : i.f0 = 0
  · rw [if_pos c0]; try rfl
  rw [if_neg c0]
  by_cases c25 : i.f0 = 25
  · rw [if_pos c25]; try rfl
  rw [if_neg c25]
  by_cases c13 : i.f0 = 13
  · rw [if_pos c13]; try rfl
  rw [if_neg c13]
  by_cases c14 : i.f0 = 14
  · rw [if_pos c14]; split <;> rfl
  rw [if_neg c14]
  by_cases c15 : i.f0 = 15
  · rw [if_pos c15]; try rfl
  rw [if_neg c15]
  by_cases c16 : i.f0 = 16
  · rw [if_pos c16]; split <;> rfl
  rw [if_neg c16]
  by_cases c18 : i.f0 = 18
  · rw [if_pos c18]; try rfl
  rw [if_neg c18]
  by_cases c24 : i.f0 = 24
  · rw [if_pos c24]; split <;> rfl
  rw [if_neg c24]
  by_cases c27 : i.f0 = 27
  · rw [if_pos c27]; split <;> rfl
  rw [if_neg c27]
  by_cases c20 : i.f0 = 20
  · rw [if_pos c20]; split
    · exact up_ne _ _ _ (show (0 : Nat) ≠ 12 + i.f1.toNat by omega)
    · rfl
  rw [if_neg c20]
  by_cases c23 : i.f0 = 23
  · rw [if_pos c23]; try rfl
  rw [if_neg c23]
  exact taken_zero ls i
theorem rd_set0 (l : List Int) (v : Int) (h : l.length = 1) : rd (l.set 0 v) 0 = v := by
  obtain ⟨x, rfl⟩ := List.length_eq_one_iff.1 h
  rfl
theorem gs_step {nc : Nat} {code : List S33} {pc : List Int} {s : (Nat → List Int) × Int} {B : Nat} (h : GS nc code pc s.1 B) (hc : canF code pc s.1 s.2 = true) : GS nc code pc (stS code s).1 (B + 1) := by
  have hn : ¬ code.length ≤ atOf s.1 := fun c => by unfold canF at hc; rw [if_pos c] at hc; cases hc
  have hok := h.si.ok (atOf s.1) (by omega)
  have hch := CH.step (nc := nc) s.1 s.2 _ hok h.si.h8
  have hat := h.si.at0
  have hlen := h.si.len
  have h0 := h.si.h0
  have hA : rd (s.1 0) 0 < 60 := by unfold atOf at hn; omega
  have hw : wrap64 (rd (s.1 0) 0 + 1) = rd (s.1 0) 0 + 1 := by unfold wrap64; omega
  have e0 : rd (st s.1 0 0 (wrap64 (rd (s.1 0) 0 + 1)) 0) 0 = rd (s.1 0) 0 + 1 := by
    have h1 : rd (st s.1 0 0 (wrap64 (rd (s.1 0) 0 + 1)) 0) 0 = wrap64 (rd (s.1 0) 0 + 1) := rd_set0 _ _ h0
    rw [h1, hw]
  have l0 : ∀ v, (st s.1 0 0 v 0).length = 1 := fun v => by rw [len_st]; exact h0
  have at1 : 0 ≤ rd ((stS code s).1 0) 0 := by
    show 0 ≤ rd ((stepF s.1 s.2 (code.getD (atOf s.1) z33)).1 0) 0
    generalize code.getD (atOf s.1) z33 = i at hok
    have hx : ∀ L : Nat → List Int, L 0 = st s.1 0 0 (wrap64 (rd (s.1 0) 0 + 1)) 0 → 0 ≤ rd (L 0) 0 := fun L e => by rw [e, e0]; omega
    unfold stepF
    by_cases c1 : i.f0 = 1
    · rw [if_pos c1]; exact hx _ rfl
    rw [if_neg c1]
    by_cases c2 : i.f0 = 2
    · rw [if_pos c2]; exact hx _ rfl
    rw [if_neg c2]
    by_cases c3 : i.f0 = 3
    · rw [if_pos c3]; exact hx _ rfl
    rw [if_neg c3]
    by_cases c4 : i.f0 = 4
    · rw [if_pos c4]; exact hx _ rfl
    rw [if_neg c4]
    by_cases c5 : i.f0 = 5
    · rw [if_pos c5]; exact hx _ rfl
    rw [if_neg c5]
    by_cases c6 : i.f0 = 6
    · rw [if_pos c6]; exact hx _ rfl
    rw [if_neg c6]
    by_cases c7 : i.f0 = 7
    · rw [if_pos c7]; exact hx _ rfl
    rw [if_neg c7]
    by_cases c8 : i.f0 = 8
    · rw [if_pos c8]; exact hx _ rfl
    rw [if_neg c8]
    by_cases c9 : i.f0 = 9
    · rw [if_pos c9]; exact hx _ rfl
    rw [if_neg c9]
    by_cases c10 : i.f0 = 10
    · rw [if_pos c10]
      show 0 ≤ rd ((st s.1 0 0 (wrap64 (rd (s.1 0) 0 + 1)) 0).set 0 i.f1) 0
      rw [rd_set0 _ _ (l0 _)]
      exact (hok.j1 c10).1
    rw [if_neg c10]
    by_cases c11 : i.f0 = 11
    · rw [if_pos c11]; split
      · show 0 ≤ rd ((st s.1 0 0 (wrap64 (rd (s.1 0) 0 + 1)) 0).set 0 i.f2) 0
        rw [rd_set0 _ _ (l0 _)]
        exact (hok.j2 c11).1
      · exact hx _ rfl
    rw [if_neg c11]
    exact hx _ (sync_zero _ _ _)
  refine ⟨⟨(hch.same 0 (by decide)).trans h0, hch.one.trans h.si.h1, (hch.same 2 (by decide)).trans h.si.h2, (hch.same 8 (by decide)).trans h.si.h8, h.si.hpc, at1, fun i hi => (h.si.ok i hi).congr2 (fun j hj => hch.same j hj), hlen⟩, fun j hj => ?_, fun j => ?_⟩
  · rcases hch.un j hj with h1 | h1 | h1
    · exact h.un j h1
    · subst h1; exact .inl rfl
    · exact .inr (.inr h1)
  · have := hch.le j
    have := h.len j
    show ((stepF s.1 s.2 (code.getD (atOf s.1) z33)).1 j).length ≤ B + 1
    omega
theorem gs_it {nc : Nat} {code : List S33} {pc : List Int} {s : (Nat → List Int) × Int} {B : Nat} (h : GS nc code pc s.1 B) : ∀ n, (∀ i, i < n → canF code pc (itS code s i).1 (itS code s i).2 = true) → GS nc code pc (itS code s n).1 (B + n)
  | 0, _ => h
  | n + 1, hc => gs_step (gs_it h n (fun i hi => hc i (by omega))) (hc n (by omega))
end Go.Proofs.Yticdodbnjlnjlaa.P
