import Derived.Test.YtbnkeddnibjncaaDoorIt
import Derived.Test.YtbnkeddnibjncaaDoorPl
namespace Go.Proofs.YtbnkeddnibjncaaDoor.It
set_option linter.unusedVariables false
open Go Go.RowKit Go.Shelf Go.Proofs.YtbnkeddnibjncaaDoorW.PrintWords Go.Proofs.YtbnkeddnibjncaaDoor.Pl
attribute [local go_sem] Oper.semAt_some
theorem TabOk.row {w w1 : World} {row : Option Nat} (h : TabOk w) (hg : w.grownBy w1 row) (hr : ∀ r, row = some r → 0 < r) : TabOk w1 :=
  h.keep (fun o ho => (hg.block 0 (blk_lt ho) (fun e => Nat.lt_irrefl 0 (hr 0 e.symm))).trans ho)
theorem Boxed.row {W W1 : World} {row : Option Nat} {b t : Nat} {v : Value} (h : Boxed W b t v) (hg : W.grownBy W1 row) (hr : ∀ r, row = some r → ∃ o : Obj, W.heap[r]? = some o ∧ o.isCells = false) : Boxed W1 b t v :=
  h.kept hg (fun e => by obtain ⟨o, ho, hc⟩ := hr b e.symm; rw [show W.heap[b]? = _ from h] at ho; cases ho; cases hc)
theorem Boxed.far {W : World} {b c t : Nat} {v : Value} (h : Boxed W b t v) (hne : c ≠ b) (u : Value) : Boxed (W.setCell ⟨c, 0, none⟩ u) b t v := (Below.heap_setCell _ _ _ _ (fun e => hne e.symm)).trans h
/-- The first number of a set from one on; -1: there is none. -/
def firstOf (s : Nat) (lo : Int) : Int := match (bnums s).find? (fun i : Nat => decide (lo ≤ (i : Int))) with | some i => i | none => -1
theorem firstOf_zero (m : Int) : firstOf 0 m = -1 := by simp [firstOf, bnums_zero]
theorem firstOf_hit (s : Nat) (m : Int) (h0 : s ≠ 0) (h : s < 18446744073709551616) (hm : m ≤ (Lib.ctz 64 s : Nat)) : firstOf s m = (Lib.ctz 64 s : Nat) := by
  unfold firstOf; rw [(bnums_step s h0 h).1, List.find?_cons]; simp [hm]
theorem firstOf_on (s : Nat) (m : Int) (h0 : s ≠ 0) (h : s < 18446744073709551616) (hm : ¬ m ≤ (Lib.ctz 64 s : Nat)) : firstOf (s &&& (s - 1)) m = firstOf s m := by
  conv => rhs; unfold firstOf; rw [(bnums_step s h0 h).1, List.find?_cons]
  simp [hm, firstOf]
/-- What lies between two rounds of First's loop. -/
def FI (w : World) (m : Int) (p : Prop) (s : Nat) (W : World) : Prop :=
  s < 18446744073709551616 ∧ p ∧ Boxed W (w.heap.size + 1 + 1) 33 (.int .u64 s) ∧ Boxed W w.heap.size 3 (.int .i64 m) ∧ Boxed W (w.heap.size + 1) 3 (.int .i64 0) ∧ TabOk W ∧ Below w.heap.size w W
def FX (w : World) (r : Int) (c : Code) (W : World) : Prop := c = .ret ∧ Boxed W (w.heap.size + 1) 3 (.int .i64 r) ∧ Below w.heap.size w W
theorem FI.own {w A B : World} {m : Int} {p : Prop} {s n : Nat} {row : Option Nat} (hs : FI w m p s A) (hpos : 0 < w.heap.size) (hg : A.grownBy B row) (hr : ∀ r, row = some r → n ≤ r ∧ ∃ o : Obj, A.heap[r]? = some o ∧ o.isCells = false) (hn : n = w.heap.size + 3) : FI w m p s B :=
  ⟨hs.1, hs.2.1, Boxed.row hs.2.2.1 hg (fun r e => (hr r e).2), Boxed.row hs.2.2.2.1 hg (fun r e => (hr r e).2), Boxed.row hs.2.2.2.2.1 hg (fun r e => (hr r e).2), hs.2.2.2.2.2.1.row hg (fun r e => by have := (hr r e).1; omega), hs.2.2.2.2.2.2.grown hg hs.2.2.2.2.2.2.size (fun r e => by have := (hr r e).1; omega)⟩
theorem FX.own {w A B : World} {r0 : Int} {c : Code} {n : Nat} {row : Option Nat} (hs : FX w r0 c A) (hg : A.grownBy B row) (hr : ∀ r, row = some r → n ≤ r ∧ ∃ o : Obj, A.heap[r]? = some o ∧ o.isCells = false) (hn : n = w.heap.size + 3) : FX w r0 c B :=
  ⟨hs.1, Boxed.row hs.2.1 hg (fun r e => (hr r e).2), hs.2.2.grown hg hs.2.2.size (fun r e => by have := (hr r e).1; omega)⟩
theorem FI.set {w W : World} {m : Int} {p : Prop} {s : Nat} (hs : s ≠ 0) (h : FI w m p s W) : FI w m p (s &&& (s - 1)) (W.setCell ⟨w.heap.size + 1 + 1, 0, none⟩ (.int .u64 ((s &&& (s - 1) : Nat) : Int))) :=
  ⟨Nat.lt_trans (low_lt s hs) h.1, h.2.1, h.2.2.1.set _, Boxed.far h.2.2.2.1 (by omega) _, Boxed.far h.2.2.2.2.1 (by omega) _, h.2.2.2.2.2.1.row (grownBy_setCell' _ _ _) (fun r e => by cases e; omega), h.2.2.2.2.2.2.setCell (p := ⟨w.heap.size + 1 + 1, 0, none⟩) (by simp; omega) _⟩
end Go.Proofs.YtbnkeddnibjncaaDoor.It
