import Derived.Test.YtjnijjpihfgimaaDoorIt
import Derived.Test.YtjnijjpihfgimaaDoorPl
namespace Go.Proofs.YtjnijjpihfgimaaDoor.It
set_option linter.unusedVariables false
open Go Go.RowKit Go.Shelf Go.Proofs.YtjnijjpihfgimaaDoorW.PrintWords Go.Proofs.YtjnijjpihfgimaaDoor.Pl
attribute [local go_sem] Oper.semAt_some
theorem TabOk.row {w w1 : World} {row : Option Nat} (h : TabOk w) (hg : w.grownBy w1 row) (hr : ∀ r, row = some r → 0 < r) : TabOk w1 :=
  h.keep (fun o ho => (hg.block 0 (blk_lt ho) (fun e => Nat.lt_irrefl 0 (hr 0 e.symm))).trans ho)
theorem Boxed.row {W W1 : World} {row : Option Nat} {b t : Nat} {v : Value} (h : Boxed W b t v) (hg : W.grownBy W1 row) (hr : ∀ r, row = some r → ∃ o : Obj, W.heap[r]? = some o ∧ o.isCells = false) : Boxed W1 b t v :=
  h.kept hg (fun e => by obtain ⟨o, ho, hc⟩ := hr b e.symm; rw [show W.heap[b]? = _ from h] at ho; cases ho; cases hc)
theorem Boxed.far {W : World} {b c t : Nat} {v : Value} (h : Boxed W b t v) (hne : c ≠ b) (u : Value) : Boxed (W.setCell ⟨c, 0, none⟩ u) b t v := (Below.heap_setCell _ _ _ _ (fun e => hne e.symm)).trans h
/-- The first number of a set from one on; -1: there is none. -/
def firstOf (s : Nat) (lo : Int) : Int := match (bnums s).find? (fun i : Nat => decide (lo ≤ (i : Int))) with | some i => i | none => -1
theorem firstOf_zero (m : Int) : firstOf 0 m = -1 := by simp [firstOf, bnums_zero]
theorem firstOf_hit (s : Nat) (m : Int) (h0 : s ≠ 0) (h : s < 18446744073709551616) (hm : m ≤ (Lib.ctz 64 s : Nat)) : firstOf s m = (Lib.ctz 64 s : Nat) := by
  unfold firstOf; rw [(bnums_step s h0 h).1, List.find?_cons]; simp [hm]
theorem firstOf_on (s : Nat) (m : Int) (h0 : s ≠ 0) (h : s < 18446744073709551616) (hm : ¬ m ≤ (Lib.ctz 64 s : Nat)) : firstOf (s &&& (s - 1)) m = firstOf s m := by
  conv => rhs; unfold firstOf; rw [(bnums_step s h0 h).1, List.find?_cons]
  simp [hm, firstOf]
/-- What lies between two rounds of First's loop. -/
def FI (w : World) (m : Int) (p : Prop) (s : Nat) (W : World) : Prop :=
  s < 18446744073709551616 ∧ p ∧ Boxed W (w.heap.size + 1 + 1) 22 (.int .u64 s) ∧ Boxed W w.heap.size 3 (.int .i64 m) ∧ Boxed W (w.heap.size + 1) 3 (.int .i64 0) ∧ TabOk W ∧ Below w.heap.size w W
def FX (w : World) (r : Int) (c : Code) (W : World) : Prop := c = .ret ∧ Boxed W (w.heap.size + 1) 3 (.int .i64 r) ∧ Below w.heap.size w W
theorem FI.own {w A B : World} {m : Int} {p : Prop} {s n : Nat} {row : Option Nat} (hs : FI w m p s A) (hpos : 0 < w.heap.size) (hg : A.grownBy B row) (hr : ∀ r, row = some r → n ≤ r ∧ ∃ o : Obj, A.heap[r]? = some o ∧ o.isCells = false) (hn : n = w.heap.size + 3) : FI w m p s B :=
  ⟨hs.1, hs.2.1, Boxed.row hs.2.2.1 hg (fun r e => (hr r e).2), Boxed.row hs.2.2.2.1 hg (fun r e => (hr r e).2), Boxed.row hs.2.2.2.2.1 hg (fun r e => (hr r e).2), hs.2.2.2.2.2.1.row hg (fun r e => by have := (hr r e).1; omega), hs.2.2.2.2.2.2.grown hg hs.2.2.2.2.2.2.size (fun r e => by have := (hr r e).1; omega)⟩
theorem FX.own {w A B : World} {r0 : Int} {c : Code} {n : Nat} {row : Option Nat} (hs : FX w r0 c A) (hg : A.grownBy B row) (hr : ∀ r, row = some r → n ≤ r ∧ ∃ o : Obj, A.heap[r]? = some o ∧ o.isCells = false) (hn : n = w.heap.size + 3) : FX w r0 c B :=
  ⟨hs.1, Boxed.row hs.2.1 hg (fun r e => (hr r e).2), hs.2.2.grown hg hs.2.2.size (fun r e => by have := (hr r e).1; omega)⟩
theorem FI.set {w W : World} {m : Int} {p : Prop} {s : Nat} (hs : s ≠ 0) (h : FI w m p s W) : FI w m p (s &&& (s - 1)) (W.setCell ⟨w.heap.size + 1 + 1, 0, none⟩ (.int .u64 ((s &&& (s - 1) : Nat) : Int))) :=
  ⟨Nat.lt_trans (low_lt s hs) h.1, h.2.1, h.2.2.1.set _, Boxed.far h.2.2.2.1 (by omega) _, Boxed.far h.2.2.2.2.1 (by omega) _, h.2.2.2.2.2.1.row (grownBy_setCell' _ _ _) (fun r e => by cases e; omega), h.2.2.2.2.2.2.setCell (p := ⟨w.heap.size + 1 + 1, 0, none⟩) (by simp; omega) _⟩
set_option maxRecDepth 100000 in
set_option maxHeartbeats 2000000 in
theorem first_any (s0 : Nat) (hs0 : s0 < 18446744073709551616) (m : Int) (w : World) (hT : TabOk w) :
    Calls Tryd.prog 16 #[.int .u64 s0, .int .i64 m] w fun e w' => e = .returned (.int .i64 (firstOf s0 m)) ∧ Below w.heap.size w w' := by
  refine (callsIn_wide (n := 10)).1 ?_
  refine callsIn_of_wp_marks Tryd.func16 rfl trivial ?_ rfl
  simp only [Tryd.ntmps16, List.size_toArray, List.length_cons, List.length_nil, Nat.reduceAdd, Nat.reduceSub, Array.replicate_succ, Array.replicate_zero, List.push_toArray, List.append_toArray, List.nil_append, List.cons_append]
  gi_wp2_with (refine ⟨trivial, ?_⟩; gi_at_call 27; refine ((callsIn_wide (n := 9)).2 (each_any _ _)).mono ?_; rintro e w' ⟨rfl, rfl⟩)
  obtain ⟨W0, hW0⟩ : ∃ W0, ((w.alloc (.cells #[.int .i64 m] 3)).alloc (.cells #[.int .i64 0] 3)).alloc (.cells #[.int .u64 s0] 22) = W0 := ⟨_, rfl⟩
  have hz0 : W0.heap.size = w.heap.size + 3 := by rw [← hW0]; simp
  have b0 : Boxed W0 w.heap.size 3 (.int .i64 m) := by rw [← hW0]; exact ((Boxed.new w _ _).alloc _).alloc _
  have b1 : Boxed W0 (w.heap.size + 1) 3 (.int .i64 0) := by
    rw [← hW0]; have := Boxed.new (w.alloc (.cells #[.int .i64 m] 3)) 3 (.int .i64 0); rw [World.size_alloc] at this; exact this.alloc _
  have b2 : Boxed W0 (w.heap.size + 1 + 1) 22 (.int .u64 s0) := by
    rw [← hW0]; have := Boxed.new ((w.alloc (.cells #[.int .i64 m] 3)).alloc (.cells #[.int .i64 0] 3)) 22 (.int .u64 s0); rw [World.size_alloc, World.size_alloc] at this; exact this
  have hBW : Below w.heap.size w W0 := by rw [← hW0]; exact below_alloc (below_alloc (below_alloc (Below.refl _ _) _) _) _
  have hpos := hT.lt
  rw [hW0]
  refine range_each (w.heap.size + 1 + 1) s0 rfl (fun s => FI w m (firstOf s m = firstOf s0 m) s) (fun s => FI w m (firstOf (s &&& (s - 1)) m = firstOf s0 m) s) (fun c => FX w (firstOf s0 m) c)
    (fun _ _ _ _ hs hg hr => hs.own hpos hg hr hz0) (fun _ _ _ _ hs hg hr => hs.own hpos hg hr hz0) (fun _ _ _ _ hs hg hr => hs.own hg hr hz0)
    (fun s W h => ⟨h.1, h.2.2.1.cell, h.2.2.1.frozen, h.2.2.2.2.2.1⟩) (fun s W h => ⟨h.1, h.2.2.1.cell, h.2.2.1.frozen⟩) (fun s W hs h => h.set hs)
    ⟨hs0, rfl, b2, b0, b1, hT.below hBW, hBW⟩
    (fun x => { tmps := #[.int .u64 s0, .int .i64 m, undef, .pointer (some ⟨w.heap.size, 0, none⟩), .pointer (some ⟨w.heap.size + 1, 0, none⟩), .int .i64 (x : Int), .int .u64 s0, .func (.func 31) #[] #[.pointer (some ⟨w.heap.size + 1 + 1, 0, none⟩)], .int .i64 (x : Int), undef, undef, undef, undef], defers := [] }) ?assign ?body ?done ?stop
  case assign =>
    intro l x W K hK
    gi_wp2
    exact hK
  case body =>
    rintro l s W h0 ⟨hlt, he, c2, c0, c1, hTW, hB⟩
    have hcz := c0.cell
    have hcr := c1.cell
    have hfr := c1.frozen
    have hk := (bnums_step s h0 hlt).2
    have hhit := firstOf_hit s m h0 hlt
    have hon := firstOf_on s m h0 hlt
    generalize Lib.ctz 64 s = k at hk hhit hon ⊢
    by_cases hm : m ≤ (k : Int)
    · have e1 := Aside0.mk (hhit hm)
      clear hhit hon
      have HE := Aside0.mk he
      clear he
      have d1 : decide (m ≤ (k : Int)) = true := decide_eq_true hm
      gi_wp2
      exact ⟨(KeepsOthers.setCell _ _ _).from _, rfl, by rw [← HE.out, e1.out]; exact c1.set _, hB.setCell (p := ⟨w.heap.size + 1, 0, none⟩) (by simp) _⟩
    · have e1 := Aside0.mk (hon hm)
      clear hhit hon
      have HE := Aside0.mk he
      clear he
      have d1 : decide (m ≤ (k : Int)) = false := decide_eq_false hm
      gi_wp2
      exact ⟨KeepsFrom.refl _ _, hlt, by rw [e1.out]; exact HE.out, c2, c0, c1, hTW, hB⟩
  case done =>
    rintro D W hD ⟨_, he, c2, c0, c1, hTW, hB⟩ hK
    rw [firstOf_zero] at he
    have hcr := c1.cell
    have hfr := c1.frozen
    have HE := Aside0.mk he
    clear he
    gi_wp2
    have hK' := (KeepsOthers.setCell W ⟨w.heap.size + 1, 0, none⟩ (.int .i64 (-1))).same D _ hK rfl
    refine ⟨by simp, .inl ⟨_, _, rfl, run_takeDeferred hK', ?_⟩⟩
    have hc5 := cell_kept (c1.set (.int .i64 (-1))).cell (grownBy_putObj' _ D (.deferred none)) (fun r e => by cases e; exact ⟨_, hK', rfl⟩)
    refine ⟨.int .i64 (-1), ?_, by rw [← HE.out], (hB.setCell (p := ⟨w.heap.size + 1, 0, none⟩) (by simp) _).trans (belowK_b (w := w) (Nat.le_refl _) _ D _ _ (by omega) hK' rfl rfl)⟩
    simp [results, Tryd.f16, go_sem, hc5]
  case stop =>
    rintro D c W hD ⟨rfl, c1, hB⟩ hK
    gi_wp2
    refine ⟨by simp, .inl ⟨_, _, rfl, run_takeDeferred hK, ?_⟩⟩
    have hc5 := cell_kept c1.cell (grownBy_putObj' _ D (.deferred none)) (fun r e => by cases e; exact ⟨_, hK, rfl⟩)
    refine ⟨.int .i64 (firstOf s0 m), ?_, rfl, hB.trans (belowK_b (w := w) (Nat.le_refl _) W D _ _ (by omega) hK rfl rfl)⟩
    simp [results, Tryd.f16, go_sem, hc5]
end Go.Proofs.YtjnijjpihfgimaaDoor.It
