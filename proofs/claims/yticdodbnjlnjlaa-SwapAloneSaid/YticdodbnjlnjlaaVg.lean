import Derived.StillTailTactics
import Derived.Test.YticdodbnjlnjlaaV5
namespace Go.Proofs.Yticdodbnjlnjlaa.P
open Go.RowKit Go.Proofs.YticdodbnjlnjlaaW.PrintWords Go.Proofs.YticdodbnjlnjlaaW.PrintLast Go.Proofs.YticdodbnjlnjlaaW.PrintMore
attribute [local go_sem] max2_int min2_int max_two min_two max_three min_three max_four min_four
attribute [local irreducible] Calls
set_option linter.unusedVariables false
set_option linter.unusedSimpArgs false
theorem many_ {P : Program} {md : Region.Mode} {ops : Array Oper} {Q : Exit → Act → World → Prop} {S : World → Prop} {ds : List Nat} {σ : Type} (LD : σ → Array Bool) (nx : σ → Nat → σ) (cnt : σ → Nat) (fin : σ → Bool) (I : σ → Act → World → Prop)
    (h1 : ∀ n, fin n = false → Region.ready md ops (LD n) ≠ [])
    (h2 : ∀ n, fin n = false → ∀ i ∈ Region.ready md ops (LD n), (LD n).setIfInBounds i true = LD (nx n i) ∧ cnt (nx n i) + 1 = cnt n)
    (h3 : ∀ n, fin n = false → ∀ i ∈ Region.ready md ops (LD n), ∀ a w, I n a w → wpOp P ops Q i (fun a' w' => (i ∉ ds → S w → S w') ∧ I (nx n i) a' w') a w)
    (h4 : ∀ n, fin n = true → ∀ a w, I n a w → wpAnyLast P md ops Q S ds (cnt n) (LD n) a w) :
    ∀ c n a w, cnt n = c → I n a w → wpAnyLast P md ops Q S ds (cnt n) (LD n) a w := by
  intro c
  induction c with
  | zero =>
    intro n a w hc hI
    cases hf : fin n with
    | true => exact h4 n hf a w hI
    | false =>
      obtain ⟨i, hi⟩ := List.exists_mem_of_ne_nil _ (h1 n hf)
      have := (h2 n hf i hi).2
      omega
  | succ c ih =>
    intro n a w hc hI
    cases hf : fin n with
    | true => exact h4 n hf a w hI
    | false =>
      rw [hc]
      refine wpAnyLast_all rfl (h1 n hf) (fun i hi => ?_)
      obtain ⟨g2, g3⟩ := h2 n hf i hi
      refine wpOp_mono (fun a' w' h => ⟨h.1, ?_⟩) (h3 n hf i hi a w hI)
      rw [g2]
      have := ih (nx n i) a' w' (by omega) h.2
      rwa [show cnt (nx n i) = c by omega] at this
def newM : List Nat := [2, 4, 7, 10, 13, 17, 21, 24, 27, 29]
def newLD (D : Nat → Bool) : List Bool := (List.range 31).map fun k => if k ∈ newM then D k else decide (k < 28)
def setD (D : Nat → Bool) (i : Nat) : Nat → Bool := fun k => if k = i then true else D k
def b01 (b : Bool) : Nat := if b = true then 0 else 1
def newCnt (D : Nat → Bool) : Nat := b01 (D 2) + b01 (D 4) + b01 (D 7) + b01 (D 10) + b01 (D 13) + b01 (D 17) + b01 (D 21) + b01 (D 24) + b01 (D 27) + b01 (D 29) + 2
def newFin (D : Nat → Bool) : Bool := D 2 && D 4 && D 7 && D 10 && D 13 && D 17 && D 21 && D 24 && D 27
def newT : Bool × List (List Nat × List Nat) := (true, [([], []), ([], []), ([1, 1], [1]), ([], []), ([3, 3], [3]), ([], []), ([5], [5]), ([6, 6], [6]), ([], []), ([8], [8]), ([9, 9], [9]), ([], []), ([11], [11]), ([12, 12], [12]), ([], []), ([14], [14]), ([15], [15]), ([16, 16], [16]), ([], []), ([18], [18]), ([19], [19]), ([20, 20], [20]), ([], []), ([22], [22]), ([23, 23], [23]), ([], []), ([25], [25]), ([26, 26], [26]), ([0, 2, 4, 7, 10, 13, 17, 21, 24, 27], [0, 2, 4, 7, 10, 13, 17, 21, 24, 27]), ([], []), ([29, 28, 0, 1, 2, 3, 4, 5, 6, 7, 8, 9, 10, 11, 12, 13, 14, 15, 16, 17, 18, 19, 20, 21, 22, 23, 24, 25, 26, 27, 28, 29], [28, 29])])
theorem newT4 : rtab .any (opsOf Try.f38 4) = newT := by kernel_rfl
theorem newLD_set (D : Nat → Bool) (i : Nat) (hi : i ∈ newM) : (newLD D).toArray.setIfInBounds i true = (newLD (setD D i)).toArray := by
  apply Array.ext'
  simp only [Array.toList_setIfInBounds]
  apply List.ext_getElem?
  intro k
  unfold newLD setD
  rw [List.getElem?_set]
  simp only [List.getElem?_map, List.length_map, List.length_range]
  by_cases hk : k < 31
  · rw [List.getElem?_range hk]
    by_cases h : i = k
    · subst h; simp [hk, hi]
    · rw [if_neg h]
      simp [Ne.symm h]
  · rw [List.getElem?_eq_none (by simpa using hk)]
    by_cases h : i = k
    · subst h; simp [hk]
    · simp [h]
theorem newCnt_set (D : Nat → Bool) (i : Nat) (hi : i ∈ newM) (h : D i = false) : newCnt (setD D i) + 1 = newCnt D := by
  simp only [newM, List.mem_cons, List.not_mem_nil, or_false] at hi
  rcases hi with rfl | rfl | rfl | rfl | rfl | rfl | rfl | rfl | rfl | rfl <;> simp [newCnt, setD, b01, h] <;> omega
theorem newReady_in (D : Nat → Bool) (hf : newFin D = false) (i : Nat) (hi : i ∈ readyT newT.2 (newLD D)) : i ∈ newM ∧ D i = false := by
  unfold readyT at hi
  rw [List.mem_filter, List.mem_range] at hi
  obtain ⟨h1, h2⟩ := hi
  have h1 : i < 31 := h1
  unfold newFin at hf
  have e : newLD D = [true, true, D 2, true, D 4, true, true, D 7, true, true, D 10, true, true, D 13, true, true, true, D 17, true, true, true, D 21, true, true, D 24, true, true, D 27, false, D 29, false] := rfl
  rw [e] at h2
  simp only [readyAt, newT, Bool.and_eq_true, Bool.not_eq_true'] at h2
  have key : ∀ j, j < 31 → i = j → i ∈ newM ∧ D i = false := by
    intro j hj hij
    subst hij
    rcases i with _ | _ | _ | _ | _ | _ | _ | _ | _ | _ | _ | _ | _ | _ | _ | _ | _ | _ | _ | _ | _ | _ | _ | _ | _ | _ | _ | _ | _ | _ | _ | i
    all_goals first
      | omega
      | (exact ⟨by decide, by simpa using h2.1⟩)
      | (exfalso; simp at h2; done)
      | (exfalso; simp at h2 hf; simp_all; done)
  exact key i h1 rfl
theorem newReady_ne (D : Nat → Bool) (hf : newFin D = false) : readyT newT.2 (newLD D) ≠ [] := by
  have e : newLD D = [true, true, D 2, true, D 4, true, true, D 7, true, true, D 10, true, true, D 13, true, true, true, D 17, true, true, true, D 21, true, true, D 24, true, true, D 27, false, D 29, false] := rfl
  have key : ∃ i, i ∈ readyT newT.2 (newLD D) := by
    by_cases h : ∃ i, i ∈ [2, 4, 7, 10, 13, 17, 21, 24, 27] ∧ D i = false
    · obtain ⟨i, hi, hd⟩ := h
      refine ⟨i, ?_⟩
      unfold readyT
      rw [List.mem_filter, List.mem_range, e]
      simp only [List.mem_cons, List.not_mem_nil, or_false] at hi
      rcases hi with rfl | rfl | rfl | rfl | rfl | rfl | rfl | rfl | rfl <;> exact ⟨by decide, by simp [readyAt, newT, hd]⟩
    · exfalso
      have h2 : ∀ i, i ∈ [2, 4, 7, 10, 13, 17, 21, 24, 27] → D i = true := fun i hi => by
        cases hd : D i with
        | true => rfl
        | false => exact absurd ⟨i, hi, hd⟩ h
      unfold newFin at hf
      rw [h2 2 (by simp), h2 4 (by simp), h2 7 (by simp), h2 10 (by simp), h2 13 (by simp), h2 17 (by simp), h2 21 (by simp), h2 24 (by simp), h2 27 (by simp)] at hf
      cases hf
  intro h
  obtain ⟨i, hi⟩ := key
  rw [h] at hi
  cases hi
def mkL : List (Nat × Nat × Nat) := [(2, 16, 0), (4, 18, 1), (7, 21, 4), (10, 24, 5), (13, 27, 6), (21, 35, 8), (24, 38, 9), (27, 41, 10)]
def mtL : List Nat := [16, 18, 21, 24, 27, 31, 35, 38, 41, 5]
theorem mkL_one : ∀ t ∈ mkL, ∀ t' ∈ mkL, (t.1 = t'.1 → t = t') ∧ (t.2.1 = t'.2.1 → t = t') ∧ (t.2.2 = t'.2.2 → t = t') := by decide
theorem mkL_in : ∀ t ∈ mkL, t.1 ∈ newM ∧ t.1 ≠ 17 ∧ t.1 ≠ 29 ∧ t.2.1 ∈ mtL ∧ t.2.1 ≠ 31 ∧ t.2.1 ≠ 5 ∧ t.2.1 - 1 ∉ mtL ∧ t.2.1 < 58 := by decide
theorem newM_in : ∀ i ∈ newM, i = 17 ∨ i = 29 ∨ ∃ t ∈ mkL, t.1 = i := by decide
theorem mkL_op : ∀ t ∈ mkL, ∃ oi : Oper, (opsOf Try.f38 4)[t.1]? = some oi ∧ oi.op = .makeSlice 23 (.tmp (t.2.1 - 1)) (.tmp (t.2.1 - 1)) ∧ oi.dst = some t.2.1 ∧ oi.guard = none := by
  intro t ht
  simp only [mkL, List.mem_cons, List.not_mem_nil, or_false] at ht
  rcases ht with rfl | rfl | rfl | rfl | rfl | rfl | rfl | rfl <;> exact ⟨_, rfl, rfl, rfl, rfl⟩
/-- What has been made so far, in whatever order. -/
structure NI (w : World) (P : PV) (nc b1 b2 : Nat) (zs : Nat → List Int) (T0 : Array Value) (D : Nat → Bool) (a : Act) (W : World) : Prop where
  size : a.tmps.size = 58
  df : a.defers = []
  kn : ∀ k, k ∉ mtL → a.tmps[k]? = T0[k]?
  be : Below w.heap.size w W
  l2 : w.heap.size ≤ b2
  x2 : W.heap[b2]? = some (.cells zCells 70 (0, 0))
  x1 : W.heap[b1]? = some (.cells (pCells P) 26 (0, 0))
  mks : ∃ g vQ b5, CM W w.heap.size g zs (fun q => mkL.any fun t => t.2.2 == q && D t.1) ∧ (∀ t ∈ mkL, D t.1 = true → a.tmps[t.2.1]? = some (g t.2.2)) ∧
    (∀ q, (mkL.any fun t => t.2.2 == q && D t.1) = false → g q = .slice none 0 0) ∧
    (D 17 = true → a.tmps[31]? = some vQ ∧ Outer W w.heap.size vQ (List.replicate nc (none, 0, 0))) ∧
    (D 29 = true → a.tmps[5]? = some (.pointer (some ⟨b5, 0, none⟩)) ∧ W.heap[b5]? = some (.cells zCells 70 (0, 0)) ∧ b2 ≠ b5 ∧ w.heap.size ≤ b5)
theorem put_at {a : Act} {N k : Nat} {v : Value} (hN : N < a.tmps.size) : (a.put (some N) v).tmps[k]? = if N = k then some v else a.tmps[k]? := by
  show (a.tmps.setIfInBounds N v)[k]? = _
  rw [Array.getElem?_setIfInBounds]
  by_cases h : N = k
  · subst h; simp [hN]
  · simp [h]
section
variable {w : World} {P : PV} {nc b1 b2 : Nat} {zs : Nat → List Int} {T0 : Array Value} {D : Nat → Bool} {a : Act} {W : World} {Q : Exit → Act → World → Prop} {K : Act → World → Prop}
theorem eval_tmp {a : Act} {k : Nat} {v : Value} (h : a.tmps[k]? = some v) : a.eval (.tmp k) = v := by
  show a.tmps.getD k undef = v
  rw [Array.getD_eq_getD_getElem?, h]
  rfl
theorem ni_int (h : NI w P nc b1 b2 zs T0 D a W) (t : Nat × Nat × Nat) (ht : t ∈ mkL) (hd : D t.1 = false) (n : Int) (h0 : 0 ≤ n) (h1 : n ≤ 8) (hT : T0[t.2.1 - 1]? = some (.int .i64 n)) (hz : zs t.2.2 = List.replicate n.toNat 0)
    (hK : ∀ a' w', NI w P nc b1 b2 zs T0 (setD D t.1) a' w' → K a' w') : wpOp Try.prog (opsOf Try.f38 4) Q t.1 K a W := by
  obtain ⟨oi, ho1, ho2, ho3, ho4⟩ := mkL_op t ht
  obtain ⟨m1, m2, m3, m4, m5, m6, m7, m8⟩ := mkL_in t ht
  refine wpOp_step ho1 (fun K' hK' => ?_)
  have hx : a.eval (.tmp (t.2.1 - 1)) = .int .i64 n := eval_tmp ((h.kn _ m7).trans hT)
  refine Kd.R_make_step (Kd.int .i64) (w0 := W) W.heap.size 3 (by unfold Region.wanted; rw [ho4]) (N := t.2.1) ho3 23 (.tmp (t.2.1 - 1)) (.tmp (t.2.1 - 1)) ho2 n hx hx Try.underlying23 (.int .i64 0) 8 info3 rfl (by decide) (by decide) (0 : Int) (ok := fun _ => True) (okp := fun _ => False) rfl (fun _ h => h.elim) trivial h0 (by omega) (Below.refl _ _) (Nat.le_refl _) ?_
  intro v1 w1 hr hb _ _
  refine hK' _ _ (hK _ _ ?_)
  rw [ho3]
  obtain ⟨g, vQ, b5, k1, k2, k3, k4, k5⟩ := h.mks
  have hsz : t.2.1 < a.tmps.size := by rw [h.size]; exact m8
  have hgr : g t.2.2 = .slice none 0 0 := k3 _ (by
    rw [List.any_eq_false]
    intro t' ht'
    by_cases e : t'.2.2 = t.2.2
    · have := (mkL_one t' ht' t ht).2.2 e
      subst this
      simp [hd]
    · simp [e])
  refine ⟨by show (a.tmps.setIfInBounds _ _).size = 58; rw [Array.size_setIfInBounds]; exact h.size, h.df, fun k hk => ?_, below_step h.be hb, h.l2, blk_below h.x2 hb, blk_below h.x1 hb, up g t.2.2 v1, vQ, b5, ?_, fun t' ht' hD => ?_, fun q hq => ?_, fun hD => ?_, fun hD => ?_⟩
  · rw [put_at hsz, if_neg (fun e => hk (by rw [← e]; exact m4))]
    exact h.kn k hk
  · refine CM.congr (CM.step k1 (below_size h.be) hb (by rw [hz]; exact R_self hr)) (fun q => ?_)
    rw [Bool.eq_iff_iff]
    simp only [Bool.or_eq_true, List.any_eq_true, Bool.and_eq_true, beq_iff_eq]
    constructor
    · rintro (⟨t', h1, h2, h3⟩ | h1)
      · exact ⟨t', h1, h2, by unfold setD; split; rfl; exact h3⟩
      · exact ⟨t, ht, h1.symm, by unfold setD; rw [if_pos rfl]⟩
    · rintro ⟨t', h1, h2, h3⟩
      unfold setD at h3
      by_cases e : t'.1 = t.1
      · have := (mkL_one t' h1 t ht).1 e
        subst this
        exact .inr h2.symm
      · rw [if_neg e] at h3
        exact .inl ⟨t', h1, h2, h3⟩
  · rw [put_at hsz]
    by_cases e : t'.1 = t.1
    · have := (mkL_one t' ht' t ht).1 e
      subst this
      rw [if_pos rfl, up_same]
    · have e2 : t.2.1 ≠ t'.2.1 := fun c => e (by rw [(mkL_one t ht t' ht').2.1 c])
      have e3 : t'.2.2 ≠ t.2.2 := fun c => e (by rw [(mkL_one t' ht' t ht).2.2 c])
      rw [if_neg e2, up_ne _ _ _ e3]
      refine k2 t' ht' ?_
      unfold setD at hD
      rwa [if_neg e] at hD
  · rw [List.any_eq_false] at hq
    have hne : q ≠ t.2.2 := fun c => hq t ht (by subst c; simp [setD])
    rw [up_ne _ _ _ hne]
    refine k3 q ?_
    rw [List.any_eq_false]
    intro t' ht' hc
    refine hq t' ht' ?_
    simp only [Bool.and_eq_true, beq_iff_eq] at hc ⊢
    exact ⟨hc.1, by unfold setD; split; rfl; exact hc.2⟩
  · obtain ⟨j1, j2⟩ := k4 (by unfold setD at hD; rwa [if_neg (Ne.symm m2)] at hD)
    rw [put_at hsz, if_neg m5]
    exact ⟨j1, Kd.R_below j2 hb⟩
  · obtain ⟨j1, j2, j3, j4⟩ := k5 (by unfold setD at hD; rwa [if_neg (Ne.symm m3)] at hD)
    rw [put_at hsz, if_neg m6]
    exact ⟨j1, blk_below j2 hb, j3, j4⟩
set_option maxRecDepth 100000 in
theorem ni_q (h : NI w P nc b1 b2 zs T0 D a W) (hd : D 17 = false) (hnc : nc ≤ 4) (hT : T0[30]? = some (.int .i64 (nc : Int)))
    (hK : ∀ a' w', NI w P nc b1 b2 zs T0 (setD D 17) a' w' → K a' w') : wpOp Try.prog (opsOf Try.f38 4) Q 17 K a W := by
  refine wpOp_step rfl (fun K' hK' => ?_)
  have hx : a.eval (.tmp 30) = .int .i64 (nc : Int) := eval_tmp ((h.kn _ (by decide)).trans hT)
  refine Kd.R_make_step kS (w0 := W) W.heap.size 23 rfl (N := 31) rfl 68 (.tmp 30) (.tmp 30) rfl (nc : Int) hx hx Try.underlying68 (.slice none 0 0) 24 info23 rfl (by decide) (by decide) (none, 0, 0) (ok := fun _ => True) (okp := fun _ => False) rfl (fun _ h => h.elim) trivial (by omega) (by omega) (Below.refl _ _) (Nat.le_refl _) ?_
  intro v1 w1 hr hb _ _
  refine hK' _ _ (hK _ _ ?_)
  obtain ⟨g, vQ, b5, k1, k2, k3, k4, k5⟩ := h.mks
  have hsz : 31 < a.tmps.size := by rw [h.size]; decide
  have hmk : ∀ t ∈ mkL, setD D 17 t.1 = D t.1 := fun t ht => if_neg (mkL_in t ht).2.1
  have hany : ∀ q, (mkL.any fun t => t.2.2 == q && setD D 17 t.1) = (mkL.any fun t => t.2.2 == q && D t.1) := fun q => by
    rw [Bool.eq_iff_iff]
    simp only [List.any_eq_true, Bool.and_eq_true]
    exact ⟨fun ⟨t, h1, h2, h3⟩ => ⟨t, h1, h2, by rw [← hmk t h1]; exact h3⟩, fun ⟨t, h1, h2, h3⟩ => ⟨t, h1, h2, by rw [hmk t h1]; exact h3⟩⟩
  show NI w P nc b1 b2 zs T0 (setD D 17) (a.put (some 31) v1) w1
  refine ⟨by show (a.tmps.setIfInBounds _ _).size = 58; rw [Array.size_setIfInBounds]; exact h.size, h.df, fun k hk => ?_, below_step h.be hb, h.l2, blk_below h.x2 hb, blk_below h.x1 hb, g, v1, b5, CM.congr (CM.below k1 hb) (fun q => (hany q).symm), fun t' ht' hD => ?_, fun q hq => k3 q (by rw [← hany]; exact hq), fun _ => ?_, fun hD => ?_⟩
  · rw [put_at hsz, if_neg (fun e => hk (by rw [← e]; decide))]
    exact h.kn k hk
  · rw [put_at hsz, if_neg (Ne.symm (mkL_in t' ht').2.2.2.2.1)]
    exact k2 t' ht' (by rw [← hmk t' ht']; exact hD)
  · rw [put_at hsz, if_pos rfl]
    exact ⟨rfl, Kd.R_lower (R_self hr) (below_size h.be)⟩
  · obtain ⟨j1, j2, j3, j4⟩ := k5 (by unfold setD at hD; rwa [if_neg (by decide)] at hD)
    rw [put_at hsz, if_neg (by decide)]
    exact ⟨j1, blk_below j2 hb, j3, j4⟩
set_option maxRecDepth 100000 in
theorem ni_box (h : NI w P nc b1 b2 zs T0 D a W) (hd : D 29 = false)
    (hK : ∀ a' w', NI w P nc b1 b2 zs T0 (setD D 29) a' w' → K a' w') : wpOp Try.prog (opsOf Try.f38 4) Q 29 K a W := by
  refine wpOp_step rfl (fun K' hK' => ?_)
  refine box_step rfl (N := 5) rfl (cs := zCells) (t := 70) ?hr ?_
  case hr => go_simp; try rfl
  intro b5 hg w1 hbox hb
  refine hK' _ _ (hK _ _ ?_)
  obtain ⟨g, vQ, _, k1, k2, k3, k4, k5⟩ := h.mks
  have hsz : 5 < a.tmps.size := by rw [h.size]; decide
  have hmk : ∀ t ∈ mkL, setD D 29 t.1 = D t.1 := fun t ht => if_neg (mkL_in t ht).2.2.1
  have hany : ∀ q, (mkL.any fun t => t.2.2 == q && setD D 29 t.1) = (mkL.any fun t => t.2.2 == q && D t.1) := fun q => by
    rw [Bool.eq_iff_iff]
    simp only [List.any_eq_true, Bool.and_eq_true]
    exact ⟨fun ⟨t, h1, h2, h3⟩ => ⟨t, h1, h2, by rw [← hmk t h1]; exact h3⟩, fun ⟨t, h1, h2, h3⟩ => ⟨t, h1, h2, by rw [hmk t h1]; exact h3⟩⟩
  have hlt := blk_lt h.x2
  have hsw := below_size h.be
  show NI w P nc b1 b2 zs T0 (setD D 29) (a.put (some 5) (.pointer (some ⟨b5, 0, none⟩))) w1
  refine ⟨by show (a.tmps.setIfInBounds _ _).size = 58; rw [Array.size_setIfInBounds]; exact h.size, h.df, fun k hk => ?_, below_step h.be hb, h.l2, blk_below h.x2 hb, blk_below h.x1 hb, g, vQ, b5, CM.congr (CM.below k1 hb) (fun q => (hany q).symm), fun t' ht' hD => ?_, fun q hq => k3 q (by rw [← hany]; exact hq), fun hD => ?_, fun _ => ?_⟩
  · rw [put_at hsz, if_neg (fun e => hk (by rw [← e]; decide))]
    exact h.kn k hk
  · rw [put_at hsz, if_neg (Ne.symm (mkL_in t' ht').2.2.2.2.2.1)]
    exact k2 t' ht' (by rw [← hmk t' ht']; exact hD)
  · obtain ⟨j1, j2⟩ := k4 (by unfold setD at hD; rwa [if_neg (by decide)] at hD)
    rw [put_at hsz, if_neg (by decide)]
    exact ⟨j1, Kd.R_below j2 hb⟩
  · rw [put_at hsz, if_pos rfl]
    exact ⟨rfl, hbox, by omega, by omega⟩
end
/-! New: the region that makes all rows, and the end. -/
set_option maxRecDepth 100000 in
theorem arr58 (A : Array Value) (h : A.size = 58) : ∃ U : Nat → Value, A = #[U 0, U 1, U 2, U 3, U 4, U 5, U 6, U 7, U 8, U 9, U 10, U 11, U 12, U 13, U 14, U 15, U 16, U 17, U 18, U 19, U 20, U 21, U 22, U 23, U 24, U 25, U 26, U 27, U 28, U 29, U 30, U 31, U 32, U 33, U 34, U 35, U 36, U 37, U 38, U 39, U 40, U 41, U 42, U 43, U 44, U 45, U 46, U 47, U 48, U 49, U 50, U 51, U 52, U 53, U 54, U 55, U 56, U 57] := by
  refine ⟨fun k => A.getD k undef, ?_⟩
  apply Array.ext'
  apply List.ext_getElem
  · simpa using h
  · intro i h1 h2
    have hi : i < 58 := by simpa [h] using h1
    have hA : A.toList[i] = A.getD i undef := by
      rw [Array.getD_eq_getD_getElem?, Array.getElem?_eq_getElem (by omega)]
      rfl
    rw [hA]
    have key : ∀ j, j < 58 → ([A.getD 0 undef, A.getD 1 undef, A.getD 2 undef, A.getD 3 undef, A.getD 4 undef, A.getD 5 undef, A.getD 6 undef, A.getD 7 undef, A.getD 8 undef, A.getD 9 undef, A.getD 10 undef, A.getD 11 undef, A.getD 12 undef, A.getD 13 undef, A.getD 14 undef, A.getD 15 undef, A.getD 16 undef, A.getD 17 undef, A.getD 18 undef, A.getD 19 undef, A.getD 20 undef, A.getD 21 undef, A.getD 22 undef, A.getD 23 undef, A.getD 24 undef, A.getD 25 undef, A.getD 26 undef, A.getD 27 undef, A.getD 28 undef, A.getD 29 undef, A.getD 30 undef, A.getD 31 undef, A.getD 32 undef, A.getD 33 undef, A.getD 34 undef, A.getD 35 undef, A.getD 36 undef, A.getD 37 undef, A.getD 38 undef, A.getD 39 undef, A.getD 40 undef, A.getD 41 undef, A.getD 42 undef, A.getD 43 undef, A.getD 44 undef, A.getD 45 undef, A.getD 46 undef, A.getD 47 undef, A.getD 48 undef, A.getD 49 undef, A.getD 50 undef, A.getD 51 undef, A.getD 52 undef, A.getD 53 undef, A.getD 54 undef, A.getD 55 undef, A.getD 56 undef, A.getD 57 undef] : List Value)[j]? = some (A.getD j undef) := by
      intro j hj
      rcases j with _ | _ | _ | _ | _ | _ | _ | _ | _ | _ | _ | _ | _ | _ | _ | _ | _ | _ | _ | _ | _ | _ | _ | _ | _ | _ | _ | _ | _ | _ | _ | _ | _ | _ | _ | _ | _ | _ | _ | _ | _ | _ | _ | _ | _ | _ | _ | _ | _ | _ | _ | _ | _ | _ | _ | _ | _ | _ | j
      all_goals first
        | rfl
        | omega
    have := key i hi
    rw [List.getElem?_eq_getElem (by simpa using hi)] at this
    exact (Option.some.inj this).symm
theorem exec_build {Pp : Program} {o : Oper} {ev : Operand → Value} {w : World} (t : TypeId) (parts : Array (Nat × Operand)) (ho : o.op = .build t parts) (cells : Array Value) (hb : Pp.built t (parts.map fun (i, x) => (i, ev x)).toList = some cells) : (execOp ev o).run Pp w = .ok (.value (.agg cells)) w := by
  unfold execOp
  simp only [ho, Sem.run_bind, run_build w t _ cells hb, Result.andThen_ok]
  rfl
set_option maxRecDepth 100000 in
theorem built70 (P : PV) (A0 A1 A4 A5 A6 A8 A9 A10 AQ : Option Addr) (n0 c0 n1 c1 n4 c4 n5 c5 n6 c6 n8 c8 n9 c9 n10 c10 nq cQ : Nat) : Try.prog.built 70 [(0, .agg (pCells P)), (1, .slice A0 n0 c0), (2, .slice A1 n1 c1), (4, .slice A4 n4 c4), (5, .slice A5 n5 c5), (6, .slice A6 n6 c6), (7, .slice AQ nq cQ), (8, .slice A8 n8 c8), (9, .slice A9 n9 c9), (10, .slice A10 n10 c10)] = some #[.int .i64 P.pv, .int .i64 P.pa, .int .i64 P.pl, P.vC, .int .i64 P.pg, .int .i64 P.po, P.vT, .slice A0 n0 c0, .slice A1 n1 c1, .slice none 0 0, .slice A4 n4 c4, .slice A5 n5 c5, .slice A6 n6 c6, .slice AQ nq cQ, .slice A8 n8 c8, .slice A9 n9 c9, .slice A10 n10 c10, .slice none 0 0, .int .i64 0] := by
  kernel_rfl
def NEnd (w : World) (nc b2 : Nat) (P : PV) (zs : Nat → List Int) (T0 : Array Value) (Q : Exit → Act → World → Prop) : Prop := ∀ (U : Nat → Value) (g : Nat → Value) (vQ : Value) (b5 : Nat) (W' : World), (∀ k, k ∉ mtL → k ≠ 42 → k < 58 → T0[k]? = some (U k)) → U 5 = .pointer (some ⟨b5, 0, none⟩) → MS W' w.heap.size g zs → Outer W' w.heap.size vQ (List.replicate nc (none, 0, 0)) → (∀ q, (mkL.any fun t => t.2.2 == q) = false → g q = .slice none 0 0) → Box W' b5 P g (.slice none 0 0) vQ 0 → W'.heap[b2]? = some (.cells zCells 70 (0, 0)) → b2 ≠ b5 → w.heap.size ≤ b5 → w.heap.size ≤ b2 → Below w.heap.size w W' → Q .normal { tmps := #[U 0, U 1, U 2, U 3, U 4, U 5, U 6, U 7, U 8, U 9, U 10, U 11, U 12, U 13, U 14, U 15, U 16, U 17, U 18, U 19, U 20, U 21, U 22, U 23, U 24, U 25, U 26, U 27, U 28, U 29, U 30, U 31, U 32, U 33, U 34, U 35, U 36, U 37, U 38, U 39, U 40, U 41, U 42, U 43, U 44, U 45, U 46, U 47, U 48, U 49, U 50, U 51, U 52, U 53, U 54, U 55, U 56, U 57], defers := [] } W'
set_option maxHeartbeats 8000000 in
set_option maxRecDepth 100000 in
theorem new_fin {Q : Exit → Act → World → Prop} {w W : World} {nc b1 b2 : Nat} {P : PV} {zs : Nat → List Int} {T0 : Array Value} {D : Nat → Bool} {a : Act} (h : NI w P nc b1 b2 zs T0 D a W) (hf : newFin D = true) (hT14 : T0[14]? = some (.agg (pCells P))) (hzs : ∀ q, (mkL.any fun t => t.2.2 == q) = false → zs q = []) (hC : P.vC.oneCell' = true) (hT : P.vT.oneCell' = true) (hQ : ∀ (v : Value) c a w, Q (.panic c) (a.put (some 42) v) w → Q (.panic c) a w) (hend : NEnd w nc b2 P zs T0 Q) :
    wpAnyLast Try.prog .any (opsOf Try.f38 4) Q (fun w' => Below w.heap.size w w' ∧ w'.heap[b1]? = some (.cells (pCells P) 26 (0, 0))) [30] (newCnt D) (newLD D).toArray a W := by
  unfold newFin at hf
  simp only [Bool.and_eq_true] at hf
  obtain ⟨⟨⟨⟨⟨⟨⟨⟨d2, d4⟩, d7⟩, d10⟩, d13⟩, d17⟩, d21⟩, d24⟩, d27⟩ := hf
  obtain ⟨g, vQ, b5, k1, k2, k3, k4, k5⟩ := h.mks
  obtain ⟨tm, df⟩ := a
  have hdf : df = [] := h.df
  subst hdf
  obtain ⟨U, hU⟩ := arr58 tm h.size
  dsimp only at hU
  subst hU
  have k1 : MS W w.heap.size g zs := CM.all k1 (fun q hq => hzs q (by
    rw [List.any_eq_false] at hq ⊢
    intro t ht hc
    refine hq t ht ?_
    simp only [Bool.and_eq_true]
    refine ⟨hc, ?_⟩
    simp only [mkL, List.mem_cons, List.not_mem_nil, or_false] at ht
    rcases ht with rfl | rfl | rfl | rfl | rfl | rfl | rfl | rfl <;> assumption))
  have k3 : ∀ q, (mkL.any fun t => t.2.2 == q) = false → g q = .slice none 0 0 := fun q hq => k3 q (by
    rw [List.any_eq_false] at hq ⊢
    intro t ht hc
    simp only [Bool.and_eq_true] at hc
    exact hq t ht hc.1)
  have u14 : U 14 = .agg (pCells P) := Option.some.inj ((h.kn 14 (by decide)).trans hT14)
  obtain ⟨A0, c0, e0⟩ := row_len (k1.row 0)
  have u16 : U 16 = .slice A0 (zs 0).length c0 := by rw [← e0]; exact Option.some.inj (k2 (2, 16, 0) (by decide) (by first | exact d2))
  obtain ⟨A1, c1, e1⟩ := row_len (k1.row 1)
  have u18 : U 18 = .slice A1 (zs 1).length c1 := by rw [← e1]; exact Option.some.inj (k2 (4, 18, 1) (by decide) (by first | exact d4))
  obtain ⟨A4, c4, e4⟩ := row_len (k1.row 4)
  have u21 : U 21 = .slice A4 (zs 4).length c4 := by rw [← e4]; exact Option.some.inj (k2 (7, 21, 4) (by decide) (by first | exact d7))
  obtain ⟨A5, c5, e5⟩ := row_len (k1.row 5)
  have u24 : U 24 = .slice A5 (zs 5).length c5 := by rw [← e5]; exact Option.some.inj (k2 (10, 24, 5) (by decide) (by first | exact d10))
  obtain ⟨A6, c6, e6⟩ := row_len (k1.row 6)
  have u27 : U 27 = .slice A6 (zs 6).length c6 := by rw [← e6]; exact Option.some.inj (k2 (13, 27, 6) (by decide) (by first | exact d13))
  obtain ⟨A8, c8, e8⟩ := row_len (k1.row 8)
  have u35 : U 35 = .slice A8 (zs 8).length c8 := by rw [← e8]; exact Option.some.inj (k2 (21, 35, 8) (by decide) (by first | exact d21))
  obtain ⟨A9, c9, e9⟩ := row_len (k1.row 9)
  have u38 : U 38 = .slice A9 (zs 9).length c9 := by rw [← e9]; exact Option.some.inj (k2 (24, 38, 9) (by decide) (by first | exact d24))
  obtain ⟨A10, c10, e10⟩ := row_len (k1.row 10)
  have u41 : U 41 = .slice A10 (zs 10).length c10 := by rw [← e10]; exact Option.some.inj (k2 (27, 41, 10) (by decide) (by first | exact d27))
  obtain ⟨q1, q2⟩ := k4 d17
  obtain ⟨AQ, cQ, eQ⟩ := Kd.R_slice q2
  rw [List.length_replicate] at eQ
  have u31 : U 31 = .slice AQ nc cQ := by rw [← eQ]; exact Option.some.inj q1
  have hkn : ∀ k, k ∉ mtL → k < 58 → T0[k]? = some (U k) := by
    intro k hk hlt
    rw [← h.kn k hk]
    rcases k with _ | _ | _ | _ | _ | _ | _ | _ | _ | _ | _ | _ | _ | _ | _ | _ | _ | _ | _ | _ | _ | _ | _ | _ | _ | _ | _ | _ | _ | _ | _ | _ | _ | _ | _ | _ | _ | _ | _ | _ | _ | _ | _ | _ | _ | _ | _ | _ | _ | _ | _ | _ | _ | _ | _ | _ | _ | _ | k
    all_goals first
      | rfl
      | omega
  have hlit : #[.int .i64 P.pv, .int .i64 P.pa, .int .i64 P.pl, P.vC, .int .i64 P.pg, .int .i64 P.po, P.vT, .slice A0 (zs 0).length c0, .slice A1 (zs 1).length c1, .slice none 0 0, .slice A4 (zs 4).length c4, .slice A5 (zs 5).length c5, .slice A6 (zs 6).length c6, .slice AQ nc cQ, .slice A8 (zs 8).length c8, .slice A9 (zs 9).length c9, .slice A10 (zs 10).length c10, .slice none 0 0, .int .i64 0] = sCells P g (.slice none 0 0) vQ 0 := by
    have e11 : g 11 = .slice none 0 0 := k3 11 (by decide)
    simp only [sCells, e0, e1, e4, e5, e6, e8, e9, e10, e11, eQ]
  have hone : (sCells P g (.slice none 0 0) vQ 0).all (·.oneCell') = true := by
    rw [← hlit]
    have hi : ∀ k n, (Value.int k n).oneCell' = true := fun _ _ => rfl
    have hs : ∀ A n c, (Value.slice A n c).oneCell' = true := fun _ _ _ => rfl
    simp [hi, hs, hC, hT]
  cases d29 : D 29 with
  | true =>
    obtain ⟨p1, p2, p3, p4⟩ := k5 d29
    have u5 : U 5 = .pointer (some ⟨b5, 0, none⟩) := Option.some.inj p1
    rw [show newCnt D = 2 by simp [newCnt, b01, d2, d4, d7, d10, d13, d17, d21, d24, d27, d29], show (newLD D).toArray = #[true, true, true, true, true, true, true, true, true, true, true, true, true, true, true, true, true, true, true, true, true, true, true, true, true, true, true, true, false, true, false] by simp [newLD, newM, List.range_succ, List.range_zero, d2, d4, d7, d10, d13, d17, d21, d24, d27, d29]]
    have HT_ := am newT4
    refine pure_ (i := 28) (N := some 42) (v := .agg (sCells P g (.slice none 0 0) vQ 0)) (a' := ?_) #[true, true, true, true, true, true, true, true, true, true, true, true, true, true, true, true, true, true, true, true, true, true, true, true, true, true, true, true, true, true, false] rfl rfl (any_of HT_.out (by kernel_rfl)) (hQ _) (Or.inl ⟨by rfl, ?_⟩) ?_ ?_
    · intro w'
      refine exec_build 70 #[(0, .tmp 14), (1, .tmp 16), (2, .tmp 18), (4, .tmp 21), (5, .tmp 24), (6, .tmp 27), (7, .tmp 31), (8, .tmp 35), (9, .tmp 38), (10, .tmp 41)] rfl _ ?_
      simp only [List.map_toArray, List.map_cons, List.map_nil]
      show Try.prog.built 70 [(0, U 14), (1, U 16), (2, U 18), (4, U 21), (5, U 24), (6, U 27), (7, U 31), (8, U 35), (9, U 38), (10, U 41)] = _
      rw [u14, u16, u18, u21, u24, u27, u31, u35, u38, u41, built70, hlit]
    rotate_left
    · simp only [Act.put, List.setIfInBounds_toArray, List.set_cons_zero, List.set_cons_succ]; rfl
    refine last_ (i := 30) (N := none) #[true, true, true, true, true, true, true, true, true, true, true, true, true, true, true, true, true, true, true, true, true, true, true, true, true, true, true, true, true, true, true] rfl rfl (one_of HT_.out (by kernel_rfl)) (by decide) (fun K hK => ?_)
    refine skip_ (w1 := W.setRow b5 (sCells P g (.slice none 0 0) vQ 0)) (by rfl) rfl (exec_store_row 70 (.tmp 5) (.tmp 42) rfl b5 (sCells P g (.slice none 0 0) vQ 0) u5 rfl 70 _ p2 size70 rfl hone) ?_
    refine hK.out _ _ ?_
    clear hK K
    refine done_ (done_of HT_.out (by kernel_rfl)) ?_
    exact hend (fun k => if k = 42 then .agg (sCells P g (.slice none 0 0) vQ 0) else U k) g vQ b5 _ (fun k h1 h2 h3 => by rw [if_neg h2]; exact hkn k h1 h3) u5 (k1.farRow p2 (by decide) _) (outer_farRow q2 p2 (by decide) _) k3 (setRow_heap _ _ _ _ _ _ p2) ((setRow_other _ _ _ _ p3).trans h.x2) p3 p4 h.l2 (below_rowS h.be p4)
  | false =>
    rw [show newCnt D = 3 by simp [newCnt, b01, d2, d4, d7, d10, d13, d17, d21, d24, d27, d29], show (newLD D).toArray = #[true, true, true, true, true, true, true, true, true, true, true, true, true, true, true, true, true, true, true, true, true, true, true, true, true, true, true, true, false, false, false] by simp [newLD, newM, List.range_succ, List.range_zero, d2, d4, d7, d10, d13, d17, d21, d24, d27, d29]]
    have HT_ := am newT4
    refine pure_ (i := 28) (N := some 42) (v := .agg (sCells P g (.slice none 0 0) vQ 0)) (a' := ?_) #[true, true, true, true, true, true, true, true, true, true, true, true, true, true, true, true, true, true, true, true, true, true, true, true, true, true, true, true, true, false, false] rfl rfl (any_of HT_.out (by kernel_rfl)) (hQ _) (Or.inl ⟨by rfl, ?_⟩) ?_ ?_
    · intro w'
      refine exec_build 70 #[(0, .tmp 14), (1, .tmp 16), (2, .tmp 18), (4, .tmp 21), (5, .tmp 24), (6, .tmp 27), (7, .tmp 31), (8, .tmp 35), (9, .tmp 38), (10, .tmp 41)] rfl _ ?_
      simp only [List.map_toArray, List.map_cons, List.map_nil]
      show Try.prog.built 70 [(0, U 14), (1, U 16), (2, U 18), (4, U 21), (5, U 24), (6, U 27), (7, U 31), (8, U 35), (9, U 38), (10, U 41)] = _
      rw [u14, u16, u18, u21, u24, u27, u31, u35, u38, u41, built70, hlit]
    rotate_left
    · simp only [Act.put, List.setIfInBounds_toArray, List.set_cons_zero, List.set_cons_succ]; rfl
    refine one_ (i := 29) (N := some 5) #[true, true, true, true, true, true, true, true, true, true, true, true, true, true, true, true, true, true, true, true, true, true, true, true, true, true, true, true, true, true, false] rfl rfl (one_of HT_.out (by kernel_rfl)) (by decide) (fun K hK => ?_)
    refine box_step (by rfl) (N := 5) rfl (cs := zCells) (t := 70) ?hr ?_
    case hr => go_simp; try rfl
    intro b5 hg w1 hbox hb
    refine hK.out _ _ ⟨below_step h.be hb, blk_below h.x1 hb⟩ (fun _ => ?_)
    clear hK K
    refine norm_ (a' := ?_) ?_ ?_
    rotate_left
    · show Act.put _ (some 5) _ = _
      simp only [Act.put, List.setIfInBounds_toArray, List.set_cons_zero, List.set_cons_succ]
      rfl
    refine last_ (i := 30) (N := none) #[true, true, true, true, true, true, true, true, true, true, true, true, true, true, true, true, true, true, true, true, true, true, true, true, true, true, true, true, true, true, true] rfl rfl (one_of HT_.out (by kernel_rfl)) (by decide) (fun K hK => ?_)
    refine skip_ (w1 := w1.setRow b5 (sCells P g (.slice none 0 0) vQ 0)) (by rfl) rfl (exec_store_row 70 (.tmp 5) (.tmp 42) rfl b5 (sCells P g (.slice none 0 0) vQ 0) rfl rfl 70 _ hbox size70 rfl hone) ?_
    refine hK.out _ _ ?_
    clear hK K
    refine done_ (done_of HT_.out (by kernel_rfl)) ?_
    have hlt := blk_lt h.x2
    have hsw := below_size h.be
    have p3 : b2 ≠ b5 := by omega
    have p4 : w.heap.size ≤ b5 := by omega
    exact hend (fun k => if k = 42 then .agg (sCells P g (.slice none 0 0) vQ 0) else if k = 5 then .pointer (some ⟨b5, 0, none⟩) else U k) g vQ b5 _ (fun k h1 h2 h3 => by rw [if_neg h2, if_neg (fun e => h1 (by rw [e]; decide))]; exact hkn k h1 h3) rfl ((k1.below hb).farRow hbox (by decide) _) (outer_farRow (Kd.R_below q2 hb) hbox (by decide) _) k3 (setRow_heap _ _ _ _ _ _ hbox) ((setRow_other _ _ _ _ p3).trans (blk_below h.x2 hb)) p3 p4 h.l2 (below_rowS (below_step h.be hb) p4)
theorem new_makes {Q : Exit → Act → World → Prop} {w W : World} {nc b1 b2 : Nat} {P : PV} {zs : Nat → List Int} {T0 : Array Value} (hI : NI w P nc b1 b2 zs T0 (fun _ => false) { tmps := T0, defers := [] } W) (hsz : ∀ t ∈ mkL, ∃ n : Int, 0 ≤ n ∧ n ≤ 8 ∧ T0[t.2.1 - 1]? = some (.int .i64 n) ∧ zs t.2.2 = List.replicate n.toNat 0) (hT30 : T0[30]? = some (.int .i64 (nc : Int))) (hnc : nc ≤ 4) (hT14 : T0[14]? = some (.agg (pCells P))) (hzs : ∀ q, (mkL.any fun t => t.2.2 == q) = false → zs q = []) (hC : P.vC.oneCell' = true) (hT : P.vT.oneCell' = true) (hQ : ∀ (v : Value) c a w, Q (.panic c) (a.put (some 42) v) w → Q (.panic c) a w) (hend : NEnd w nc b2 P zs T0 Q) :
    wpAnyLast Try.prog .any (opsOf Try.f38 4) Q (fun w' => Below w.heap.size w w' ∧ w'.heap[b1]? = some (.cells (pCells P) 26 (0, 0))) [30] 12 (newLD (fun _ => false)).toArray { tmps := T0, defers := [] } W := by
  have hr : ∀ D, Region.ready .any (opsOf Try.f38 4) (newLD D).toArray = readyT newT.2 (newLD D) := fun D => by rw [ready_eq, newT4]
  have hin : ∀ D, newFin D = false → ∀ i ∈ Region.ready .any (opsOf Try.f38 4) (newLD D).toArray, i ∈ newM ∧ D i = false := fun D hf i hi => newReady_in D hf i (by rw [← hr]; exact hi)
  refine many_ (fun D => (newLD D).toArray) setD newCnt newFin (fun D a W => NI w P nc b1 b2 zs T0 D a W) (fun D hf => by rw [hr]; exact newReady_ne D hf) (fun D hf i hi => ?_) (fun D hf i hi a W h => ?_) (fun D hf a W h => new_fin h hf hT14 hzs hC hT hQ hend) 12 (fun _ => false) _ W rfl hI
  · obtain ⟨h1, h2⟩ := hin D hf i hi
    exact ⟨newLD_set D i h1, newCnt_set D i h1 h2⟩
  · obtain ⟨h1, h2⟩ := hin D hf i hi
    rcases newM_in i h1 with rfl | rfl | ⟨t, ht, rfl⟩
    · exact ni_q h h2 hnc hT30 (fun a' w' h' => ⟨fun _ _ => ⟨h'.be, h'.x1⟩, h'⟩)
    · exact ni_box h h2 (fun a' w' h' => ⟨fun _ _ => ⟨h'.be, h'.x1⟩, h'⟩)
    · obtain ⟨n, n0, n1, n2, n3⟩ := hsz t ht
      exact ni_int h t ht h2 n n0 n1 n2 n3 (fun a' w' h' => ⟨fun _ _ => ⟨h'.be, h'.x1⟩, h'⟩)
theorem size26 : (Try.prog.info? 26).map (·.size) = some 7 := by kernel_rfl
theorem newT8 : rtab .any (opsOf Try.f38 8) = (true, [([], []), ([0], [0]), ([], []), ([2], [2]), ([1, 3], [1, 3]), ([0, 1, 2, 3, 4], []), ([5, 4, 4, 0, 1, 2, 3, 4], [4, 5])]) := by kernel_rfl
/-- A state at the beginning. -/
def zs0 (P : PV) (nc : Nat) : Nat → List Int := fun q => if q = 0 then List.replicate (1 : Int).toNat 0 else if q = 1 then List.replicate (1 : Int).toNat 0 else if q = 4 then List.replicate P.pv.toNat 0 else if q = 5 then List.replicate P.pa.toNat 0 else if q = 6 then List.replicate P.pl.toNat 0 else if q = 8 then List.replicate (nc : Int).toNat 0 else if q = 9 then List.replicate P.pg.toNat 0 else if q = 10 then List.replicate P.po.toNat 0 else []
def ls0 (P : PV) (nc : Nat) : Nat → List Int := st (up (zs0 P nc) 2 (List.replicate (4 : Int).toNat 0)) 1 0 1
structure Lim (P : PV) (nc : Nat) : Prop where
  v0 : 0 ≤ P.pv
  v1 : P.pv ≤ 8
  a0 : 0 ≤ P.pa
  a1 : P.pa ≤ 4
  l0 : 0 ≤ P.pl
  l1 : P.pl ≤ 4
  g0 : 0 ≤ P.pg
  g1 : P.pg ≤ 4
  o0 : 0 ≤ P.po
  o1 : P.po ≤ 4
  c : nc ≤ 4
theorem pOne (P : PV) (hC : P.vC.oneCell' = true) (hT : P.vT.oneCell' = true) : (pCells P).all (·.oneCell') = true := by
  have hi : ∀ k n, (Value.int k n).oneCell' = true := fun _ _ => rfl
  simp [pCells, hi, hC, hT]
theorem results2 {fn : Func} {p r : Tmp} {ty : TypeId} {a : Act} {w : World} {Post : Ending → World → Prop} {Pp : Program} (h : fn.results = #[.cell p ty, .tmp r]) (g : Nat) (cs : Array Value) (v : Value)
    (h1 : (loadVar ty ⟨g, 0, none⟩).run Pp w = .ok (.agg cs) w)
    (hp : a.tmps.getD p undef = .pointer (some ⟨g, 0, none⟩)) (hr : a.tmps.getD r undef = v) (hdf : a.defers = [])
    (hpost : Post (.returned (.tuple #[.agg cs, v])) w) : bodyPost Pp fn Post .ret a w := by
  have hp' : a.tmps[p]?.getD undef = .pointer (some ⟨g, 0, none⟩) := by simpa using hp
  have hr' : a.tmps[r]?.getD undef = v := by simpa using hr
  refine bodyPost_ret (v := .tuple #[.agg cs, v]) ?_ hdf hpost
  simp [results, h, hp', hr', asAddr, h1]
def SOUND (P : PV) (w : World) : Prop := ∀ w', Below w.heap.size w w' → Calls Try.prog 18 #[.agg (pCells P)] w' (fun e w'' => e = .returned (.int .i64 0) ∧ Below w'.heap.size w' w'')
set_option maxHeartbeats 8000000 in
set_option maxRecDepth 100000 in
theorem new_any (P : PV) (code : List S33) (pc : List Int) (nc : Nat) (w : World) (hP : PF w P code pc) (hnc : pc.length = nc) (hl : Lim P nc) (hS : SOUND P w) :
    Calls Try.prog 38 #[.agg (pCells P)] w (fun e w' => ∃ g vR vQ, e = .returned (.tuple #[.agg (sCells P g vR vQ 0), .bool true]) ∧ WS w' w.heap.size g (ls0 P nc) vR vQ nc ∧ Below w.heap.size w w') := by
  have hC : P.vC.oneCell' = true := hP.c.one
  have hT : P.vT.oneCell' = true := by obtain ⟨_, _, _, _, e, _⟩ := hP.t; rw [e]; rfl
  obtain ⟨aT, cT, _, _, eT, _⟩ := hP.t
  obtain ⟨AC, cC, eC, _, _⟩ := hP.c
  rw [hnc] at eC
  have HVC := am eC
  have HVT := am eT
  have HC := am hC
  have HT := am hT
  have HL := am hl
  have HS := am hS
  clear hC hT eT eC hl hS hP
  go_enter Try.func38, Try.ntmps38
  go_upto_region 4 with (first | ((with_reducible refine gd 1 ?_); refine bx 1 (pCells P) 26 ?_; intro b1 qg W qx qb; have HX := am qx; have HB := am qb; clear qg qx qb) | ((with_reducible refine gd 2 ?_); refine bx 2 (zCells) 70 ?_; intro b2 qg W qx qb; have HZ := am qx; have HG2 := am (Nat.le_trans (below_size HB.out) (Nat.le_of_eq qg.symm)); replace HX := am (blk_below HX.out qb); replace HB := am (below_step HB.out qb); clear qg qx qb) | ((with_reducible refine gd 7 ?_); refine wpList_load_row rfl 26 (.tmp 1) rfl b1 rfl 26 (pCells P) (0, 0) _ HX.out Try.underlying26 rfl size26 ?_) | (go_at_call 18; refine (HS.out _ HB.out).mono ?_; rintro e W ⟨rfl, hb⟩; replace HX := am (blk_below HX.out hb); replace HZ := am (blk_below HZ.out hb); replace HB := am (below_step HB.out hb); clear hb; have x6 : W.cell? ⟨b1, 6, none⟩ = some P.vT := blk_cell HX.out 6; rw [HVT.out] at x6))
  refine sa 31 (fun w' => Below w.heap.size w w' ∧ w'.heap[b1]? = some (.cells (pCells P) 26 (0, 0))) newT4 (⟨pw_below_drewN HB.out 1, HX.out⟩) [30] (fun HT_ hHeld => ?_)
  have HWW : Aside0 (Below W.heap.size W W.drew) := ⟨below_drew (Below.refl _ _)⟩
  generalize W.drew = W0 at hHeld HWW ⊢
  refine ta 0 14 HT_ hHeld (v := (.agg (pCells P))) ?_ ?_
  · exact fun w' hS' => exec_load_row 26 (.tmp 1) rfl b1 rfl 26 (pCells P) (0, 0) _ hS'.2 Try.underlying26 rfl size26
  refine pu 1 15 HT_ ?_
  refine pu 3 17 HT_ ?_
  refine pu 5 19 HT_ ?_
  refine ta 6 20 HT_ hHeld (v := ?_) ?_ ?_; rotate_left
  · intro w' hS'; have y_ : w'.cell? ⟨b1, 0, none⟩ = some (.int .i64 P.pv) := blk_cell hS'.2 0; go_simp; with_reducible rfl
  refine pu 8 22 HT_ ?_
  refine ta 9 23 HT_ hHeld (v := ?_) ?_ ?_; rotate_left
  · intro w' hS'; have y_ : w'.cell? ⟨b1, 1, none⟩ = some (.int .i64 P.pa) := blk_cell hS'.2 1; go_simp; with_reducible rfl
  refine pu 11 25 HT_ ?_
  refine ta 12 26 HT_ hHeld (v := ?_) ?_ ?_; rotate_left
  · intro w' hS'; have y_ : w'.cell? ⟨b1, 2, none⟩ = some (.int .i64 P.pl) := blk_cell hS'.2 2; go_simp; with_reducible rfl
  refine pu 14 28 HT_ ?_
  refine ta 15 29 HT_ hHeld (v := ?_) ?_ ?_; rotate_left
  · intro w' hS'; have y_ : w'.cell? ⟨b1, 3, none⟩ = some (P.vC) := blk_cell hS'.2 3; rw [HVC.out] at y_; go_simp; with_reducible rfl
  refine pu 16 30 HT_ ?_
  refine pu 18 32 HT_ ?_
  refine ta 19 33 HT_ hHeld (v := ?_) ?_ ?_; rotate_left
  · intro w' hS'; have y_ : w'.cell? ⟨b1, 3, none⟩ = some (P.vC) := blk_cell hS'.2 3; rw [HVC.out] at y_; go_simp; with_reducible rfl
  refine pu 20 34 HT_ ?_
  refine pu 22 36 HT_ ?_
  refine ta 23 37 HT_ hHeld (v := ?_) ?_ ?_; rotate_left
  · intro w' hS'; have y_ : w'.cell? ⟨b1, 4, none⟩ = some (.int .i64 P.pg) := blk_cell hS'.2 4; go_simp; with_reducible rfl
  refine pu 25 39 HT_ ?_
  refine ta 26 40 HT_ hHeld (v := ?_) ?_ ?_; rotate_left
  · intro w' hS'; have y_ : w'.cell? ⟨b1, 5, none⟩ = some (.int .i64 P.po) := blk_cell hS'.2 5; go_simp; with_reducible rfl
  obtain ⟨T0, hT0⟩ : ∃ T0 : Array Value, T0 = _ := ⟨_, rfl⟩
  refine norm_ (a' := { tmps := T0, defers := [] }) (by rw [hT0]) ?_
  have hz : ∀ q, (mkL.any fun t => t.2.2 == q) = false → zs0 P nc q = [] := fun q hq => by
    rw [List.any_eq_false] at hq
    have h := fun t ht => hq t ht
    simp only [mkL, List.mem_cons, List.not_mem_nil, or_false] at h
    have a0 := h (2, 16, 0) (by simp); have a1 := h (4, 18, 1) (by simp); have a4 := h (7, 21, 4) (by simp); have a5 := h (10, 24, 5) (by simp); have a6 := h (13, 27, 6) (by simp); have a8 := h (21, 35, 8) (by simp); have a9 := h (24, 38, 9) (by simp); have a10 := h (27, 41, 10) (by simp)
    simp only [beq_iff_eq] at a0 a1 a4 a5 a6 a8 a9 a10
    unfold zs0
    rw [if_neg (Ne.symm a0), if_neg (Ne.symm a1), if_neg (Ne.symm a4), if_neg (Ne.symm a5), if_neg (Ne.symm a6), if_neg (Ne.symm a8), if_neg (Ne.symm a9), if_neg (Ne.symm a10)]
  have hbW : Below W.heap.size W W0 := HWW.out
  have hNI : NI w P nc b1 b2 (zs0 P nc) T0 (fun _ => false) { tmps := T0, defers := [] } W0 := ⟨by rw [hT0]; rfl, rfl, fun _ _ => rfl, hHeld.1, HG2.out, blk_below HZ.out hbW, hHeld.2, fun _ => .slice none 0 0, .slice none 0 0, 0, CM.congr (CM.none_ _ _ _) (fun q => by simp), fun t _ h => by simp at h, fun _ _ => rfl, fun h => by simp at h, fun h => by simp at h⟩
  have hsz : ∀ t ∈ mkL, ∃ n : Int, 0 ≤ n ∧ n ≤ 8 ∧ T0[t.2.1 - 1]? = some (.int .i64 n) ∧ zs0 P nc t.2.2 = List.replicate n.toNat 0 := by
    obtain ⟨v0, v1, a0, a1, l0, l1, g0, g1, o0, o1, c⟩ := HL.out
    intro t ht
    simp only [mkL, List.mem_cons, List.not_mem_nil, or_false] at ht
    rcases ht with rfl | rfl | rfl | rfl | rfl | rfl | rfl | rfl
    · exact ⟨1, by decide, by decide, by rw [hT0]; rfl, rfl⟩
    · exact ⟨1, by decide, by decide, by rw [hT0]; rfl, rfl⟩
    · exact ⟨P.pv, v0, v1, by rw [hT0]; rfl, rfl⟩
    · exact ⟨P.pa, a0, by omega, by rw [hT0]; rfl, rfl⟩
    · exact ⟨P.pl, l0, by omega, by rw [hT0]; rfl, rfl⟩
    · exact ⟨nc, by omega, by omega, by rw [hT0]; rfl, rfl⟩
    · exact ⟨P.pg, g0, by omega, by rw [hT0]; rfl, rfl⟩
    · exact ⟨P.po, o0, by omega, by rw [hT0]; rfl, rfl⟩
  refine new_makes hNI hsz (by rw [hT0]; rfl) HL.out.c (by rw [hT0]; rfl) hz HC.out HT.out (fun _ _ _ _ h => h) ?_
  intro U g vQ b5 W5 hU h5 hM hO hg hY hZ n25 l5 l2 hB5
  have u1 : U 1 = .pointer (some ⟨b1, 0, none⟩) := Option.some.inj ((hU 1 (by decide) (by decide) (by decide)).symm.trans (by rw [hT0]; rfl))
  have u2 : U 2 = .pointer (some ⟨b2, 0, none⟩) := Option.some.inj ((hU 2 (by decide) (by decide) (by decide)).symm.trans (by rw [hT0]; rfl))
  have u4 : U 4 = .int .i64 1 := Option.some.inj ((hU 4 (by decide) (by decide) (by decide)).symm.trans (by rw [hT0]; rfl))
  clear hT0 hNI hsz hz hU T0 hHeld HX HZ HB hbW HWW
  dsimp only
  rw [u1, u2, u4, h5]
  clear u1 u2 u4 h5
  have HM := am hM
  have HO := am hO
  have HG := am hg
  have HY := am hY
  have HZ := am hZ
  have HN := am n25
  have HL5 := am l5
  have HB := am hB5
  clear hM hO hg hY hZ n25 l5 l2 hB5 HT_ x6
  have REL : Aside0 (∃ (i : Nat) (g : Nat → Value) (v1 : Value), i = 0 ∧ Box W5 b5 P g v1 vQ 0 ∧ (i = 0 → v1 = .slice none 0 0 ∧ MS W5 w.heap.size g (zs0 P nc)) ∧ ∀ k, g (12 + k) = .slice none 0 0) := ⟨⟨0, g, _, rfl, HY.out, fun _ => ⟨rfl, HM.out⟩, fun k => HG.out (12 + k) (by
    rw [List.any_eq_false]
    intro t ht h
    simp only [mkL, List.mem_cons, List.not_mem_nil, or_false] at ht
    rcases ht with rfl | rfl | rfl | rfl | rfl | rfl | rfl | rfl <;> simp at h <;> omega)⟩⟩
  clear REL
  have HG12 : Aside0 (∀ k, g (12 + k) = .slice none 0 0) := ⟨fun k => HG.out (12 + k) (by
    rw [List.any_eq_false]
    intro t ht h
    simp only [mkL, List.mem_cons, List.not_mem_nil, or_false] at ht
    rcases ht with rfl | rfl | rfl | rfl | rfl | rfl | rfl | rfl <;> simp at h <;> omega)⟩
  clear HG
  go_wp2
  go_loopw [6] (fun v6 wr => ∃ (i : Nat) (g : Nat → Value) (v1 : Value), i ≤ 1 ∧ v6 = .int .i64 (i : Int) ∧ Aside0 (Box wr b5 P g v1 vQ 0 ∧ wr.heap[b2]? = some (.cells zCells 70 (0, 0)) ∧ Outer wr w.heap.size vQ (List.replicate nc (none, 0, 0)) ∧ ∀ k, g (12 + k) = .slice none 0 0) ∧ Aside0 (i = 0 → v1 = .slice none 0 0 ∧ MS wr w.heap.size g (zs0 P nc)) ∧ Aside0 (i = 1 → (∃ x, Outer wr w.heap.size v1 [x] ∧ g 2 = encS x) ∧ MS wr w.heap.size g (up (zs0 P nc) 2 (List.replicate (4 : Int).toNat 0)) ∧ ∀ k, v1.ownBlock = some k → vQ.ownBlock ≠ some k) ∧ Aside0 (Below w.heap.size w wr)) (fun v6 _ => 1 - (intOf v6).toNat)
  case atStart => exact ⟨0, g, .slice none 0 0, Nat.zero_le _, rfl, ⟨HY.out, HZ.out, HO.out, HG12.out⟩, ⟨fun _ => ⟨rfl, HM.out⟩⟩, ⟨fun h => by cases h⟩, HB⟩
  case round =>
    clear HM HO HY HZ HB HG12
    obtain ⟨i, g, v1, hi, rfl, HQ, H0, H1, HB⟩ := hrel
    have HY := am HQ.out.1
    have HZ := am HQ.out.2.1
    have HO := am HQ.out.2.2.1
    have HG := am HQ.out.2.2.2
    clear HQ
    by_cases hlt : i < 1
    · obtain rfl : i = 0 := by omega
      clear hlt hi H1
      obtain ⟨hv, hm⟩ := H0.out rfl
      subst hv
      have HM := am hm
      clear hm H0
      as_aux_lemma =>
        go_wp2
        refine sa 7 (fun w' => Below wr.heap.size wr w') newT8 (below_drew (Below.refl _ _)) [4, 6] (fun HT_ hHeld => ?_)
        refine pu 0 48 HT_ ?_
        refine ta 1 49 HT_ hHeld (v := ?_) ?_ ?_; rotate_left
        · intro w' hS'; have y_ := Box.at9 (blk_below HY.out hS'); go_simp; with_reducible rfl
        refine on 2 (some 50) HT_ (fun K hK => ?_)
        refine Kd.R_make_step (Kd.int .i64) (w0 := wr.drew) wr.drew.heap.size 3 (by rfl) (N := 50) rfl 23 _ _ rfl (4 : Int) rfl rfl Try.underlying23 (.int .i64 0) 8 info3 rfl (by decide) (by decide) (0 : Int) (ok := fun _ => True) (okp := fun _ => False) rfl (fun _ h => h.elim) trivial (by omega) (by decide) (Below.refl _ _) (Nat.le_refl _) ?_
        intro vx w2 hr hb2 _ _
        obtain ⟨A_, c_, e_⟩ := Kd.R_slice hr
        subst e_
        have HR2 := am hr
        have HB2 := am hb2
        have HB1 := am hHeld
        have hb12 := below_step hHeld hb2
        clear hr hb2
        refine hK.out _ _ (hb12) (fun hHeld => ?_)
        clear hK K
        refine nm 50 ?_
        clear hb12
        refine on 3 (some 51) HT_ (fun K hK => ?_)
        refine Kd.R_lit_step kS (w0 := w2) w2.heap.size 23 (by rfl) (N := 51) rfl (xs := [(A_, (List.replicate (4 : Int).toNat (0 : Int)).length, c_)]) (inner := [encS (A_, (List.replicate (4 : Int).toNat (0 : Int)).length, c_)]) (ok := fun _ => True) (okp := fun _ => False) ?hr (Kd.reps_scalar _) (fun _ h => h.elim) trivial (Below.refl _ _) (Nat.le_refl _) (by simp) ?_
        case hr => go_simp; try rfl
        intro vl w3 hl hb3 _ _
        obtain ⟨Al, cl, el⟩ := Kd.R_slice hl
        subst el
        have HL3 := am (Kd.R_reads' hl).2.2
        have HB3 := am hb3
        have hb13 := below_step hHeld hb3
        clear hl hb3
        refine hK.out _ _ (hb13) (fun hHeld => ?_)
        clear hK K
        refine nm 51 ?_
        clear hb13
        refine la 4 (some 52) HT_ (fun K hK => ?_)
        have BB_ := below_step HB.out hHeld
        refine Kd.R_append_rows_step kS (w0 := w) w.heap.size (by rfl) (.tmp 49) (.tmp 51) 68 23 (.slice none 0 0) 24 rfl Try.underlying68 info23 rfl (by decide) (by omega) (.slice none 0 0) [] [(A_, (List.replicate (4 : Int).toNat (0 : Int)).length, c_)] _ _ _ (fun _ => True) (fun _ => False) rfl rfl (Kd.R_nil _ _ _ _ _) HL3.out (fun _ _ h => h) (fun _ h => h.elim) (fun _ _ => trivial) BB_ (below_size BB_) (by simp) ?_
        intro vn w4 hap hb4 hg4 hat
        obtain ⟨An, cn, en⟩ := Kd.R_slice hap
        subst en
        have hb34 : Below w3.heap.size w3 w4 := (Below.refl _ _).grown hg4 (Nat.le_refl _) (fun k hk => by simp [Value.ownBlock] at hk)
        have HAP := am hap
        have HB4 := am (below_step hHeld hb34)
        have HB24 := am (below_step HB3.out hb34)
        have HLT3 := am (below_size hHeld)
        have HAT := am hat
        clear hap hb4 hg4 hat BB_ hb34
        refine hK.out _ _ ?_
        clear hK K
        refine nm 52 ?_
        refine pu 5 53 HT_ ?_
        refine la 6 (none) HT_ (fun K hK => ?_)
        have y_ := Box.at9 (blk_below HY.out HB4.out)
        have z_ := Box.fr (blk_below HY.out HB4.out) 9
        refine skip_ (w1 := (w4.setCell ⟨b5, 9, none⟩ (.slice An ([] ++ [(A_, (List.replicate (4 : Int).toNat (0 : Int)).length, c_)]).length cn))) (by rfl) rfl ?hr ?_
        case hr => go_simp; try rfl
        clear y_ z_
        obtain ⟨w5, hw5⟩ : ∃ w5, w5 = w4.setCell ⟨b5, 9, none⟩ (.slice An ([] ++ [(A_, (List.replicate (4 : Int).toNat (0 : Int)).length, c_)]).length cn) := ⟨_, rfl⟩
        have HW5 := am hw5
        rw [← hw5]
        clear hw5
        refine hK.out _ _ ?_
        clear hK K
        refine dn HT_ ?_
        go_wp2
        go_roundw
        case rel =>
          have hb5 : Box w4 b5 P g (.slice none 0 0) vQ 0 := blk_below HY.out HB4.out
          have hm := ((((HM.out.below HB1.out).fresh 2 (below_size (below_step HB.out HB1.out)) HB2.out HR2.out).below HB24.out).far hb5 (by decide) 9 (.slice An ([] ++ [(A_, (List.replicate (4 : Int).toNat (0 : Int)).length, c_)]).length cn))
          have ho : Outer w4 w.heap.size vQ (List.replicate nc (none, 0, 0)) := Kd.R_below HO.out HB4.out
          refine ⟨1, up g 2 (.slice A_ (List.replicate (4 : Int).toNat (0 : Int)).length c_), .slice An ([] ++ [(A_, (List.replicate (4 : Int).toNat (0 : Int)).length, c_)]).length cn, Nat.le_refl _, by go_num, ⟨?_, ?_, ?_, ?_⟩, ⟨fun h => by cases h⟩, ⟨fun _ => ⟨⟨(A_, (List.replicate (4 : Int).toNat (0 : Int)).length, c_), ?_, ?_⟩, ?_, ?_⟩⟩, ⟨?_⟩⟩
          · rw [HW5.out]
            have := Box.set9 hb5 (.slice An ([] ++ [(A_, (List.replicate (4 : Int).toNat (0 : Int)).length, c_)]).length cn)
            unfold Box at this ⊢
            rw [← sCells_up P g 2 (.slice A_ (List.replicate (4 : Int).toNat (0 : Int)).length c_) _ _ _ (.inl rfl)] at this
            exact this
          · rw [HW5.out]; exact blk_far (blk_below HZ.out HB4.out) HN.out _
          · rw [HW5.out]; exact outer_far ho hb5 (by decide) 9 _
          · intro k; rw [up_ne _ _ _ (by omega)]; exact HG.out k
          · rw [HW5.out]
            exact outer_far (R_self HAP.out) hb5 (by decide) 9 _
          · exact up_same _ _ _
          · rw [HW5.out]; exact hm
          · intro k hk hk2
            obtain ⟨cur, hcur⟩ := own_block HO.out hk2
            have hlt := blk_lt hcur
            rcases HAT.out with e | ⟨b, e, hb⟩
            · rw [e] at hk; simp [Value.ownBlock] at hk
            · rw [e] at hk
              injection hk with hk
              have := HLT3.out
              omega
          · rw [HW5.out]; exact below_set (below_step HB.out HB4.out) HL5.out
        case measure => simp [intOf]
    · obtain rfl : i = 1 := by omega
      clear hlt hi H0
      obtain ⟨⟨x0, hx1, hx2⟩, hm, hne⟩ := H1.out rfl
      have HW : Aside0 (WF wr w.heap.size g g (up (zs0 P nc) 2 (List.replicate (4 : Int).toNat 0)) v1 vQ nc) := ⟨⟨hm, ⟨x0, hx1, hx2⟩, ⟨_, HO.out, List.length_replicate .., fun k hk => by rw [HG.out k, List.getD_eq_getElem?_getD, List.getElem?_replicate, if_pos hk]; rfl⟩, hne⟩⟩
      clear hx1 hx2 hm hne H1 HO
      obtain ⟨k1, c1, e1, r1, f1⟩ := HW.out.at 1 0 (Int.le_refl _) (show (0 : Int) < ((1 : Nat) : Int) by decide)
      have HE1 : Aside0 (g 1 = .slice (some ⟨k1, 0, none⟩) 1 c1) := ⟨e1⟩
      have r10 : wr.cell? ⟨k1, 0, none⟩ = some (.int .i64 (rd (up (zs0 P nc) 2 (List.replicate (4 : Int).toNat 0) 1) 0)) := r1
      have f10 : wr.frozen? ⟨k1, 0, none⟩ = false := f1
      clear e1 r1 f1
      have s8 := Box.at8 HY.out
      rw [HE1.out] at s8
      go_wp2_with (first | ((with_reducible refine gs 3 56 ?_); refine sv (wr.setCell ⟨k1, (0 : Int).toNat, none⟩ (.int .i64 1)) ?_; intro W hw; clear r10 f10 s8; have HW2 := am (show WF W w.heap.size g g (ls0 P nc) v1 vQ nc by rw [hw]; exact HW.out.put 1 HE1.out 0 1); have hcur := HW.out.ms.block HE1.out; have HY2 := am (show Box W b5 P g v1 vQ 0 by (obtain ⟨cur, hc⟩ := hcur; rw [hw]; exact blk_far HY.out (blk_ne HY.out hc (by decide)) _)); have HZ2 := am (show W.heap[b2]? = some (.cells zCells 70 (0, 0)) by (obtain ⟨cur, hc⟩ := hcur; rw [hw]; exact blk_far HZ.out (blk_ne HZ.out hc (by decide)) _)); have HB2 := am (show Below w.heap.size w W by rw [hw]; exact below_set HB.out (HW.out.ms.lo_le HE1.out)); clear hw hcur) | ((with_reducible refine gd 57 ?_); refine wpList_load_row rfl 70 (.tmp 5) rfl b5 rfl 70 (sCells P g v1 vQ 0) (0, 0) _ HY2.out Try.underlying70 rfl size70 ?_) | ((with_reducible refine gs 70 2 ?_); refine store_row_event rfl 70 (.tmp 2) (.tmp 57) rfl b2 (sCells P g v1 vQ 0) rfl rfl 70 _ HZ2.out size70 rfl (sOne 0 (HW2.out.rs (Seen.refl _ _)) HC.out HT.out) rfl ?_; intro W3 hw3; have HW3 := am hw3; clear hw3))
      refine results2 rfl b2 (sCells P g v1 vQ 0) (.bool true) (run_loadVar_row _ b2 70 70 _ (0, 0) _ (show W3.heap[b2]? = some (.cells (sCells P g v1 vQ 0) 70 (0, 0)) by rw [HW3.out]; exact setRow_heap _ _ _ _ _ _ HZ2.out) Try.underlying70 rfl size70) ?hp ?hr ?hd ?_
      case hp => rfl
      case hr => rfl
      case hd => rfl
      have hwf : WF W3 w.heap.size g g (ls0 P nc) v1 vQ nc := by rw [HW3.out]; exact HW2.out.farRow HZ2.out (by decide) (by decide) _
      exact ⟨g, v1, vQ, rfl, ⟨hwf.ms, hwf.r, hwf.q, hwf.ne⟩, by rw [HW3.out]; exact below_rowS HB2.out HG2.out⟩
end Go.Proofs.Yticdodbnjlnjlaa.P
