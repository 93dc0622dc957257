import Derived.Test.YtbnkeddnibjncaaDoorIt2
import Derived.RangeFuncBox
namespace Go.Proofs.YtbnkeddnibjncaaDoor.It
set_option linter.unusedVariables false
open Go Go.RowKit Go.Shelf Go.Proofs.YtbnkeddnibjncaaDoorW.PrintWords Go.Proofs.YtbnkeddnibjncaaDoor.Pl
attribute [local go_sem] Oper.semAt_some
theorem infoInt : (Tryd.prog.info? 3).map (fun i => (i.zero, i.size, i.bytes)) = some (some (.int .i64 0), 1, 8) := by kernel_rfl
/-- The numbers of a set as Go's ints. -/
def nints (s : Nat) : List Int := (bnums s).map (fun i : Nat => (i : Int))
theorem nints_len (s : Nat) : (nints s).length ≤ 64 := by
  unfold nints bnums
  rw [List.length_map]
  exact Nat.le_trans (List.length_filter_le _ _) (by simp)
/-- What lies between two rounds of AppendSeq's loop. N: the block of its variable; b: the iterator's box. -/
def LI (n0 N b : Nat) (w : World) (xs : List Int) (f : List Int → List Int → Prop) (s : Nat) (W : World) : Prop :=
  s < 18446744073709551616 ∧ ∃ pre v, f pre xs ∧ pre.length ≤ 64 ∧ Boxed W N 31 v ∧ W.ownsRow n0 3 1 v pre.length (pre.map (Value.int .i64)) ∧ Boxed W b 33 (.int .u64 s) ∧ TabOk W ∧ Below n0 w W
theorem LI.own {n0 N b n s : Nat} {w A B : World} {xs : List Int} {f : List Int → List Int → Prop} {row : Option Nat} (hs : LI n0 N b w xs f s A) (hpos : 0 < n0) (hg : A.grownBy B row) (hr : ∀ r, row = some r → n ≤ r ∧ ∃ o : Obj, A.heap[r]? = some o ∧ o.isCells = false) (hn : n0 ≤ n) (hw : n0 ≤ w.heap.size) : LI n0 N b w xs f s B := by
  obtain ⟨h1, pre, v, h2, h3, h4, h5, h6, h7, h8⟩ := hs
  refine ⟨h1, pre, v, h2, h3, Boxed.row h4 hg (fun r e => (hr r e).2), h5.kept hg ?_, Boxed.row h6 hg (fun r e => (hr r e).2), h7.row hg (fun r e => by have := (hr r e).1; omega), h8.grown hg (Nat.le_trans hw h8.size) (fun r e => by have := (hr r e).1; omega)⟩
  rcases h5.2 with ⟨rfl, _⟩ | ⟨g, cap, cur, rfl, _, hgb, _⟩
  · exact .inl rfl
  · refine .inr fun e' => ?_
    obtain ⟨_, o, ho, hc⟩ := hr g (by simpa [Value.ownBlock] using e'.symm)
    rw [hgb] at ho; cases ho; cases hc
theorem LI.set {n0 N b s : Nat} {w W : World} {xs : List Int} {f : List Int → List Int → Prop} (hs : s ≠ 0) (hb : n0 ≤ b) (hpos : 0 < n0) (hN : b ≠ N) (h : LI n0 N b w xs f s W) : LI n0 N b w xs f (s &&& (s - 1)) (W.setCell ⟨b, 0, none⟩ (.int .u64 ((s &&& (s - 1) : Nat) : Int))) := by
  obtain ⟨h1, pre, v, h2, h3, h4, h5, h6, h7, h8⟩ := h
  exact ⟨Nat.lt_trans (low_lt s hs) h1, pre, v, h2, h3, Boxed.far h4 hN _, h5.kept (grownBy_setCell' _ _ _) (.inr (Boxed.not_row h6 (by decide) h5).symm), h6.set _, h7.row (grownBy_setCell' _ _ _) (fun r e => by cases e; omega), h8.setCell (p := ⟨b, 0, none⟩) hb _⟩
set_option maxRecDepth 100000 in
set_option maxHeartbeats 2000000 in
theorem appendSeq_any (n0 b s0 : Nat) (hs0 : s0 < 18446744073709551616) (w : World) (hT : TabOk w) (hb : n0 ≤ b) (hpos : 0 < n0) (hbx : Boxed w b 33 (.int .u64 s0)) :
    Calls Tryd.prog 43 #[.slice none 0 0, .func (.func 44) #[] #[.pointer (some ⟨b, 0, none⟩)]] w fun e w' => ∃ v, e = .returned v ∧ w'.ownsRow n0 3 1 v (nints s0).length ((nints s0).map (Value.int .i64)) ∧ Below n0 w w' := by
  have hblt := hbx.lt
  obtain ⟨i0, hi, hz0, hz1, hz2⟩ := info_parts infoInt
  refine (callsIn_wide (n := 10)).1 ?_
  refine callsIn_of_wp_marks Tryd.func43 rfl trivial ?_ rfl
  simp only [Tryd.ntmps43, List.size_toArray, List.length_cons, List.length_nil, Nat.reduceAdd, Nat.reduceSub, Array.replicate_succ, Array.replicate_zero, List.push_toArray, List.append_toArray, List.nil_append, List.cons_append]
  gi_wp2
  obtain ⟨W0, hW0⟩ : ∃ W0, w.alloc (.cells #[.slice none 0 0] 31) = W0 := ⟨_, rfl⟩
  have hz0' : W0.heap.size = w.heap.size + 1 := by rw [← hW0]; simp
  have b0 : Boxed W0 w.heap.size 31 (.slice none 0 0) := by rw [← hW0]; exact Boxed.new w _ _
  have b1 : Boxed W0 b 33 (.int .u64 s0) := by rw [← hW0]; exact hbx.alloc _
  have hBW : Below n0 w W0 := by rw [← hW0]; exact (Below.refl _ _).alloc (by omega) _
  have hTW : TabOk W0 := hT.row (row := none) (by rw [← hW0]; exact World.grownBy_alloc _ _ _) (fun r e => by cases e)
  rw [hW0]
  refine range_each b s0 rfl (fun s => LI n0 w.heap.size b w (nints s0) (fun pre xs => xs = pre ++ nints s) s) (fun s => LI n0 w.heap.size b w (nints s0) (fun pre xs => xs = pre ++ nints (s &&& (s - 1))) s) (fun _ _ => False)
    (fun _ _ _ _ hs hg hr => hs.own hpos hg hr (by omega) (by omega)) (fun _ _ _ _ hs hg hr => hs.own hpos hg hr (by omega) (by omega)) (fun _ _ _ _ hs _ _ => hs)
    (fun s W h => by obtain ⟨h1, pre, v, h2, h3, h4, h5, h6, h7, h8⟩ := h; exact ⟨h1, h6.cell, h6.frozen, h7⟩) (fun s W h => by obtain ⟨h1, pre, v, h2, h3, h4, h5, h6, h7, h8⟩ := h; exact ⟨h1, h6.cell, h6.frozen⟩) (fun s W hs h => h.set hs hb hpos (by omega))
    ⟨hs0, [], _, rfl, by simp, b0, World.ownsRow_nil _ _ _ _, b1, hTW, hBW⟩
    (fun x => { tmps := #[.slice none 0 0, .func (.func 44) #[] #[.pointer (some ⟨b, 0, none⟩)], .pointer (some ⟨w.heap.size, 0, none⟩), undef, .slice none 0 0, .int .i64 (x : Int), .func (.func 44) #[] #[.pointer (some ⟨b, 0, none⟩)], .int .i64 (x : Int), undef, undef, undef, undef, undef], defers := [] }) ?assign ?body ?done ?stop
  case assign =>
    intro l x W K hK
    gi_wp2
    exact hK
  case body =>
    rintro l s W h0 ⟨hlt, pre, v, he, hl, hv, hrow, h6, h7, h8⟩
    obtain ⟨hst, hk⟩ := bnums_step s h0 hlt
    have hst' : nints s = ((Lib.ctz 64 s : Nat) : Int) :: nints (s &&& (s - 1)) := by unfold nints; rw [hst]; rfl
    have hl2 : (pre ++ nints s).length ≤ 64 := by rw [← he]; exact nints_len _
    rw [hst'] at he hl2
    clear hst hst'
    generalize Lib.ctz 64 s = k at hk he hl2 ⊢
    have hl3 : pre.length < 64 := by simp at hl2; omega
    have HE := Aside0.mk he
    clear he hl2
    have hcv := hv.cell
    have hle : n0 ≤ W.heap.size := Nat.le_trans (by omega) h8.size
    have hN : n0 ≤ w.heap.size := by omega
    gi_wp2_with (gi_at_builtin; refine wpListIn_append_own _ rfl _ _ 31 rfl n0 3 i0 (.int .i64 0) 1 8 Tryd.underlying31 hi hz0 hz1 hz2 rfl (by decide) _ _ _ rfl (hrow.alloc _) ⟨W.heap.size, 0, none⟩ 1 1 [.int .i64 k] rfl rfl (cell_one_new _ _ _) (by simp [Value.oneCell']) (by unfold maxLen; omega) (by omega) (by simp; omega) ?_; intro v' w1 hown' hgrow _; obtain ⟨g', cap', rfl⟩ := ownsRow_succ hown'; have HG := Aside0.mk hgrow; obtain ⟨hv1, hv2, hr2, hk2, hb2⟩ := hv.appended (by decide) hrow hle hN hown' hgrow; clear hgrow; have hc1 := hv1.cell; have hf1 := hv1.frozen; have HR := Aside0.mk hr2; clear hr2 hown')
    have hT1 : TabOk w1 := (h7.row (World.grownBy_alloc W _ none) (fun r e => by cases e)).row HG.out (fun r e => by have := own_base hrow r e; omega)
    have hB1 : Boxed w1 b 33 (.int .u64 s) := (h6.alloc _).kept HG.out (Boxed.not_row h6 (by decide) hrow)
    exact ⟨hk2.from _, hlt, pre ++ [(k : Int)], _, by rw [HE.out]; simp, by simp; omega, hv2, by simpa using HR.out, Boxed.far hB1 (by omega) _, hT1.row (grownBy_setCell' _ _ _) (fun r e => by cases e; omega), h8.trans hb2⟩
  case done =>
    rintro D W hD ⟨hlt, pre, v, he, hl, hv, hrow, h6, h7, h8⟩ hK
    have hz : nints 0 = [] := by unfold nints; rw [bnums_zero]; rfl
    rw [hz, List.append_nil] at he
    subst he
    obtain ⟨A, c, rfl⟩ := own_slice hrow
    have hcv := hv.cell
    have HR := Aside0.mk hrow
    clear hrow hz
    gi_wp2
    refine ⟨by simp, .inl ⟨_, _, rfl, run_takeDeferred hK, ?_⟩⟩
    exact ⟨_, results_tmp rfl _ _ _, _, rfl, ownsRow_putObj HR.out _ hK rfl, h8.trans ((Below.refl n0 W).grown (grownBy_putObj' W D _) (Nat.le_trans (by omega) h8.size) (fun k e => by cases e; omega))⟩
  case stop =>
    rintro D c W hD h _
    exact h.elim
end Go.Proofs.YtbnkeddnibjncaaDoor.It
