-- written by this project's xprint.py (a turn of the kit's printer; its own texts among them)
import Derived.Test.YticdodbnjlnjlaaPx0
namespace Go.Proofs.Yticdodbnjlnjlaa.P
open Go.RowKit Go.Proofs.YticdodbnjlnjlaaW.PrintWords Go.Proofs.YticdodbnjlnjlaaW.PrintLast Go.Proofs.YticdodbnjlnjlaaW.PrintMore
attribute [local go_sem] max2_int min2_int max_two min_two max_three min_three max_four min_four   -- for this text's walks alone
attribute [local irreducible] Calls
set_option linter.unusedVariables false
set_option linter.unusedSimpArgs false

/-! ### ir_shapes: function 59 -/
def ZSH : Array Value := (List.replicate 28 [Value.string { data := #[] }, Value.int IntKind.u8 0, Value.int IntKind.u8 0, Value.int IntKind.u8 0, Value.bool false, Value.bool false, Value.bool false]).flatten.toArray
theorem zvSH (w : World) : Sem.run Try.prog (zeroValue 103) w = .ok (.agg ZSH) w := by kernel_rfl

theorem math_any (s : ByteArray) (w : World) : Calls Try.prog 71 #[.string s] w fun e w' => e = .returned (.agg #[.string s, .int .u8 2, .int .u8 3, .int .u8 3, .bool true, .bool false, .bool false]) ∧ Below w.heap.size w w' := by
  go_enter Try.func71, Try.ntmps71
  go_wp2
  exact bodyPost_ret (v := .agg #[.string s, .int .u8 2, .int .u8 3, .int .u8 3, .bool true, .bool false, .bool false]) (by simp [results, Try.results71, go_sem]) rfl ⟨rfl, (Below.refl _ _).alloc (Nat.le_refl _) _⟩
theorem of_any (s : ByteArray) (k : Int) (a b : Bool) (w : World) : Calls Try.prog 72 #[.string s, .int .u8 k, .bool a, .bool b] w fun e w' => e = .returned (.agg #[.string s, .int .u8 k, .int .u8 0, .int .u8 0, .bool false, .bool a, .bool b]) ∧ Below w.heap.size w w' := by
  go_enter Try.func72, Try.ntmps72
  go_wp2
  exact bodyPost_ret (v := .agg #[.string s, .int .u8 k, .int .u8 0, .int .u8 0, .bool false, .bool a, .bool b]) (by simp [results, Try.results72, go_sem]) rfl ⟨rfl, (Below.refl _ _).alloc (Nat.le_refl _) _⟩

structure Shp where
  nm : List UInt8
  a : Int
  b : Int
  c : Int
  p : Bool
  q : Bool
  r : Bool
def Shp.cells (s : Shp) : List Value := [.string ⟨s.nm.toArray⟩, .int .u8 s.a, .int .u8 s.b, .int .u8 s.c, .bool s.p, .bool s.q, .bool s.r]
def Shp.zero : Shp := ⟨[], 0, 0, 0, false, false, false⟩
/-- The chapter's table. -/
def shpTab : List Shp := [
  ⟨[110, 111, 112], 0, 0, 0, true, false, false⟩,
  ⟨[99, 111, 110, 115, 116], 2, 1, 0, true, false, false⟩,
  ⟨[109, 111, 118, 101], 2, 3, 0, true, false, false⟩,
  ⟨[97, 100, 100], 2, 3, 3, true, false, false⟩,
  ⟨[115, 117, 98], 2, 3, 3, true, false, false⟩,
  ⟨[109, 117, 108], 2, 3, 3, true, false, false⟩,
  ⟨[108, 101, 115, 115], 2, 3, 3, true, false, false⟩,
  ⟨[108, 111, 97, 100], 2, 4, 0, true, false, false⟩,
  ⟨[115, 116, 111, 114, 101], 4, 3, 0, true, false, false⟩,
  ⟨[112, 114, 105, 110, 116], 3, 0, 0, false, false, false⟩,
  ⟨[106, 117, 109, 112], 5, 0, 0, false, false, false⟩,
  ⟨[122, 101, 114, 111], 3, 5, 0, false, false, false⟩,
  ⟨[103, 111], 6, 0, 0, false, false, true⟩,
  ⟨[108, 111, 99, 107], 7, 0, 0, false, true, false⟩,
  ⟨[117, 110, 108, 111, 99, 107], 7, 0, 0, false, false, true⟩,
  ⟨[114, 108, 111, 99, 107], 7, 0, 0, false, true, false⟩,
  ⟨[114, 117, 110, 108, 111, 99, 107], 7, 0, 0, false, false, true⟩,
  ⟨[114, 101, 97, 100], 2, 8, 0, false, true, false⟩,
  ⟨[119, 114, 105, 116, 101], 8, 3, 0, false, false, true⟩,
  ⟨[98, 117, 109, 112], 2, 8, 3, false, true, true⟩,
  ⟨[115, 101, 110, 100], 9, 3, 0, false, true, true⟩,
  ⟨[114, 101, 99, 118], 2, 9, 0, false, true, true⟩,
  ⟨[112, 111, 108, 108], 2, 9, 2, false, true, true⟩,
  ⟨[99, 108, 111, 115, 101], 9, 0, 0, false, false, true⟩,
  ⟨[103, 114, 111, 119], 10, 1, 0, false, false, true⟩,
  ⟨[119, 97, 105, 116], 10, 0, 0, false, true, false⟩,
  ⟨[98, 101, 103, 105, 110], 2, 11, 0, false, true, false⟩,
  ⟨[101, 110, 100], 11, 0, 0, false, false, true⟩]
def SH : Array Value := (shpTab.map Shp.cells).flatten.toArray
theorem wpList_build_as {P : Program} {ops : Array Oper} {rest : List Oper} {o : Oper} {a : Act} {w : World} {Q : Exit → Act → World → Prop} (cells : Array Value) (hg : o.guard = none) (t : TypeId) (parts : Array (Nat × Operand)) (ho : o.op = .build t parts)
    (hf : P.built t (parts.map fun (i, x) => (i, a.eval x)).toList = some cells)
    (h : wpList P ops Q rest (a.put o.dst (.agg cells)) w) : wpList P ops Q (o :: rest) a w :=
  wpList_build hg t parts ho (by rw [hf]; rfl) (by rw [hf]; exact h)
theorem below_setRow {w W : World} {g : Nat} {cs : Array Value} (h : Below w.heap.size w W) (hg : w.heap.size ≤ g) : Below w.heap.size w (W.setRow g cs) :=
  ⟨h.os, h.tape, h.output, by have := h.size; simpa using this, fun i hi => (setRow_other W g i cs (by omega)).trans (h.block i hi)⟩
theorem below_open {w W : World} {o : Obj} (h : Below (w.alloc o).heap.size (w.alloc o) W) : Below w.heap.size w W :=
  below_then (below_alloc (Below.refl _ _) o) (by simp) h
set_option maxHeartbeats 4000000 in
set_option maxRecDepth 100000 in
theorem shapes (w : World) : Calls Try.prog 59 #[] w fun e w' => e = .returned (.agg SH) ∧ Below w.heap.size w w' := by
  have hz := zvSH
  have HB := Aside0.mk (Below.refl (w.alloc (.cells ZSH 103)).heap.size (w.alloc (.cells ZSH 103)))
  go_enter Try.func59, Try.ntmps59
  go_wp2_with (first | (go_at_call 71; refine (math_any _ _).mono ?_; rintro e w' ⟨rfl, hb⟩; have HB1 := Aside0.mk (below_step HB.out hb); clear HB hb; have HB := HB1; clear HB1) | (go_at_call 72; refine (of_any _ _ _ _ _).mono ?_; rintro e w' ⟨rfl, hb⟩; have HB1 := Aside0.mk (below_step HB.out hb); clear HB hb; have HB := HB1; clear HB1) | (with_reducible refine gate_ (.build 103 _) rfl ?_; refine wpList_build_as SH rfl 103 _ rfl ?hf ?_; case hf => kernel_rfl) | (refine gate_ (.store 103 _ _) rfl ?_; refine wpList_store_row rfl 103 (.tmp 0) (.tmp 58) rfl w.heap.size SH ?x1 ?x2 103 ZSH ?hg ?h1 ?h2 ?h3 ?_; (case x1 => rfl); (case x2 => (kernel_rfl)); (case hg => exact blk_below (blk_new w _) HB.out); (case h1 => kernel_rfl); (case h2 => kernel_rfl); (case h3 => kernel_rfl)))
  
  refine bodyPost_ret (v := .agg SH) ?_ ?_ ?_
  · exact results_cell_row rfl _ _ w.heap.size 103 SH (0, 0) (.array 28 89) (by kernel_rfl) (setRow_heap _ _ ZSH SH _ _ (blk_below (blk_new w _) HB.out)) Try.underlying103 rfl (by kernel_rfl)
  · rfl
  · exact ⟨rfl, below_setRow (below_open HB.out) (Nat.le_refl _)⟩

/-! ### ir_of: function 47 -/
def shpAt (op : Int) : Shp := shpTab.getD op.toNat Shp.zero
theorem SH_at : ∀ i, i < 28 → SH[i * 7]? = some (.string ⟨(shpTab.getD i Shp.zero).nm.toArray⟩) ∧ SH[i * 7 + 1]? = some (.int .u8 (shpTab.getD i Shp.zero).a) ∧ SH[i * 7 + 2]? = some (.int .u8 (shpTab.getD i Shp.zero).b) ∧ SH[i * 7 + 3]? = some (.int .u8 (shpTab.getD i Shp.zero).c) ∧ SH[i * 7 + 4]? = some (.bool (shpTab.getD i Shp.zero).p) ∧ SH[i * 7 + 5]? = some (.bool (shpTab.getD i Shp.zero).q) ∧ SH[i * 7 + 6]? = some (.bool (shpTab.getD i Shp.zero).r)
  | 0, _ | 1, _ | 2, _ | 3, _ | 4, _ | 5, _ | 6, _ | 7, _ | 8, _ | 9, _ | 10, _ | 11, _ | 12, _ | 13, _ | 14, _ | 15, _ | 16, _ | 17, _ | 18, _ | 19, _ | 20, _ | 21, _ | 22, _ | 23, _ | 24, _ | 25, _ | 26, _ | 27, _ => ⟨by kernel_rfl, by kernel_rfl, by kernel_rfl, by kernel_rfl, by kernel_rfl, by kernel_rfl, by kernel_rfl⟩
  | n + 28, h => absurd h (by omega)
theorem setRow_cells {W : World} {g : Nat} (h : W.heap[g]? = some (.cells ZSH 103 (0, 0))) {i : Nat} {v : Value} (hv : SH[i]? = some v) : (W.setRow g SH).cell? ⟨g, i, none⟩ = some v :=
  (cell_setRow_same W g i ZSH SH 103 (0, 0) h).trans hv
theorem after_store {w wq : World} {o : Array Value} (hb : Below (w.alloc (.cells o 89)).heap.size (w.alloc (.cells o 89)) wq) :
    Below w.heap.size w ((wq.alloc (.cells ZSH 103)).setRow wq.heap.size SH) ∧ (∀ i v, SH[i]? = some v → ((wq.alloc (.cells ZSH 103)).setRow wq.heap.size SH).cell? ⟨wq.heap.size, i, none⟩ = some v) ∧ ((wq.alloc (.cells ZSH 103)).setRow wq.heap.size SH).heap[w.heap.size]? = some (.cells o 89 (0, 0)) := by
  have h1 : wq.heap[w.heap.size]? = some (.cells o 89 (0, 0)) := blk_below (blk_new w _) hb
  have h2 := blk_lt h1
  refine ⟨below_setRow (below_alloc (below_open hb) _) (by omega), fun i v hv => setRow_cells (blk_new wq _) hv, ?_⟩
  rw [setRow_other _ _ _ _ (by omega)]
  exact blk_alloc h1 _
set_option maxHeartbeats 4000000 in
set_option maxRecDepth 100000 in
theorem of_in (op : Int) (h0 : 0 ≤ op) (h1 : op < 28) (w : World) : Calls Try.prog 47 #[.int .u8 op] w fun e w' => e = .returned (.tuple #[.agg (shpAt op).cells.toArray, .bool true]) ∧ Below w.heap.size w w' := by
  have hz := zvSH
  obtain ⟨n, rfl⟩ := Int.eq_ofNat_of_zero_le h0
  have HT := SH_at n (by omega)
  show Calls Try.prog 47 #[.int .u8 n] w fun e w' => e = .returned (.tuple #[.agg (shpTab.getD n Shp.zero).cells.toArray, .bool true]) ∧ Below w.heap.size w w'
  generalize shpTab.getD n Shp.zero = s at HT ⊢
  replace HT := Aside0.mk HT
  go_enter Try.func47, Try.ntmps47
  go_wp2_with (first | (go_at_call 59; refine (shapes _).mono ?_; rintro e wq ⟨rfl, hb⟩; have HB1 := Aside0.mk hb; clear hb) | (refine gate_ (.store 103 _ _) rfl ?_; refine wpList_store_row rfl 103 (.tmp 4) (.tmp 5) rfl wq.heap.size SH ?x1 ?x2 103 ZSH ?hg ?h1 ?h2 ?h3 ?_; (case x1 => rfl); (case x2 => rfl); (case hg => exact blk_new wq _); (case h1 => kernel_rfl); (case h2 => kernel_rfl); (case h3 => kernel_rfl); have HA := Aside0.mk (after_store HB1.out); generalize World.setRow _ _ _ = W2 at HA ⊢; generalize wq.heap.size = g at HA ⊢; have hc := HA.out.2.1; have hc0 := hc _ _ HT.out.1; have hc1 := hc _ _ HT.out.2.1; have hc2 := hc _ _ HT.out.2.2.1; have hc3 := hc _ _ HT.out.2.2.2.1; have hc4 := hc _ _ HT.out.2.2.2.2.1; have hc5 := hc _ _ HT.out.2.2.2.2.2.1; have hc6 := hc _ _ HT.out.2.2.2.2.2.2; clear hc) | (refine gate_ (.store 89 _ _) rfl ?_; refine wpList_store_row rfl 89 (.tmp 2) (.tmp 12) rfl w.heap.size s.cells.toArray ?x1 ?x2 89 _ HA.out.2.2 ?h1 ?h2 ?h3 ?_; (case x1 => rfl); (case x2 => rfl); (case h1 => kernel_rfl); (case h2 => rfl); (case h3 => kernel_rfl)))
  refine bodyPost_ret (v := .tuple #[.agg s.cells.toArray, .bool true]) ?_ ?_ ?_
  · exact results_ct (p := 2) (u := 3) (ty := 89) rfl _ _ w.heap.size 89 s.cells.toArray (0, 0) _ rfl (setRow_heap _ _ _ _ _ _ HA.out.2.2) Try.underlying89 rfl (by kernel_rfl)
  · rfl
  · exact ⟨rfl, below_setRow HA.out.1 (Nat.le_refl _)⟩
set_option maxHeartbeats 4000000 in
set_option maxRecDepth 100000 in
theorem of_out (op : Int) (h1 : 28 ≤ op) (h2 : op ≤ 255) (w : World) : Calls Try.prog 47 #[.int .u8 op] w fun e w' => e = .returned (.tuple #[.agg (shpAt op).cells.toArray, .bool false]) ∧ Below w.heap.size w w' := by
  have hz := zvSH
  obtain ⟨n, rfl⟩ := Int.eq_ofNat_of_zero_le (show (0 : Int) ≤ op by omega)
  have hs : shpAt n = Shp.zero := by
    show shpTab.getD n Shp.zero = Shp.zero
    rw [List.getD_eq_getElem?_getD, List.getElem?_eq_none (by show 28 ≤ n; omega)]; rfl
  rw [hs]
  clear hs
  go_enter Try.func47, Try.ntmps47
  go_wp2_with (first | (go_at_call 59; refine (shapes _).mono ?_; rintro e wq ⟨rfl, hb⟩; have HB1 := Aside0.mk hb; clear hb) | (refine gate_ (.store 103 _ _) rfl ?_; refine wpList_store_row rfl 103 (.tmp 4) (.tmp 5) rfl wq.heap.size SH ?x1 ?x2 103 ZSH ?hg ?h1 ?h2 ?h3 ?_; (case x1 => rfl); (case x2 => rfl); (case hg => exact blk_new wq _); (case h1 => kernel_rfl); (case h2 => kernel_rfl); (case h3 => kernel_rfl); have HA := Aside0.mk (after_store HB1.out); generalize World.setRow _ _ _ = W2 at HA ⊢; generalize wq.heap.size = g at HA ⊢) | (refine gate_ (.store 89 _ _) rfl ?_; refine wpList_store_row rfl 89 (.tmp 2) (.tmp 9) rfl w.heap.size Shp.zero.cells.toArray ?x1 ?x2 89 _ HA.out.2.2 ?h1 ?h2 ?h3 ?_; (case x1 => rfl); (case x2 => rfl); (case h1 => kernel_rfl); (case h2 => rfl); (case h3 => kernel_rfl)))
  refine bodyPost_ret (v := .tuple #[.agg Shp.zero.cells.toArray, .bool false]) ?_ ?_ ?_
  · exact results_ct (p := 2) (u := 3) (ty := 89) rfl _ _ w.heap.size 89 Shp.zero.cells.toArray (0, 0) _ rfl (setRow_heap _ _ _ _ _ _ HA.out.2.2) Try.underlying89 rfl (by kernel_rfl)
  · rfl
  · exact ⟨rfl, below_setRow HA.out.1 (Nat.le_refl _)⟩
theorem of_all (op : Int) (h0 : 0 ≤ op) (h2 : op ≤ 255) (w : World) : Calls Try.prog 47 #[.int .u8 op] w fun e w' => e = .returned (.tuple #[.agg (shpAt op).cells.toArray, .bool (decide (op < 28))]) ∧ Below w.heap.size w w' := by
  by_cases h : op < 28
  · rw [decide_eq_true h]; exact of_in op h0 h w
  · rw [decide_eq_false h]; exact of_out op (by omega) h2 w

theorem after_box {w wq W2 : World} {o : Array Value} {s : Shp} (e : (wq.alloc (.cells o 89)).setRow wq.heap.size s.cells.toArray = W2) (hb : Below w.heap.size w wq) :
    Below w.heap.size w W2 ∧ (∀ i v, s.cells.toArray[i]? = some v → W2.cell? ⟨wq.heap.size, i, none⟩ = some v) := by
  subst e
  exact ⟨below_setRow (below_alloc hb _) hb.size, fun i _ hv => (cell_setRow_same _ _ i o _ 89 (0, 0) (blk_new wq _)).trans hv⟩
def Shp.w (s : Shp) (n : Nat) : Int := if n = 0 then s.a else if n = 1 then s.b else if n = 2 then s.c else 0
theorem index3_0 (a b c : Int) (w : World) : (Instr.index 87 (.agg #[.int .u8 a, .int .u8 b, .int .u8 c]) (.int .i64 (0 : Nat))).run Try.prog w = .ok (.int .u8 a) w := by kernel_rfl
theorem index3_1 (a b c : Int) (w : World) : (Instr.index 87 (.agg #[.int .u8 a, .int .u8 b, .int .u8 c]) (.int .i64 (1 : Nat))).run Try.prog w = .ok (.int .u8 b) w := by kernel_rfl
theorem index3_2 (a b c : Int) (w : World) : (Instr.index 87 (.agg #[.int .u8 a, .int .u8 b, .int .u8 c]) (.int .i64 (2 : Nat))).run Try.prog w = .ok (.int .u8 c) w := by kernel_rfl
theorem index3 (s : Shp) (n : Nat) (h : n < 3) (w : World) : (Instr.index 87 (.agg #[.int .u8 s.a, .int .u8 s.b, .int .u8 s.c]) (.int .i64 n)).run Try.prog w = .ok (.int .u8 (s.w n)) w := by
  rcases (by omega : n = 0 ∨ n = 1 ∨ n = 2) with rfl | rfl | rfl
  · exact index3_0 _ _ _ w
  · exact index3_1 _ _ _ w
  · exact index3_2 _ _ _ w
theorem shp_at {W : World} {g : Nat} {s : Shp} (h : ∀ i v, s.cells.toArray[i]? = some v → W.cell? ⟨g, i, none⟩ = some v) (n : Nat) (hn : n < 3) : W.cell? ⟨g, 1 + n, none⟩ = some (.int .u8 (s.w n)) := by
  rcases (by omega : n = 0 ∨ n = 1 ∨ n = 2) with rfl | rfl | rfl
  · exact h 1 _ rfl
  · exact h 2 _ rfl
  · exact h 3 _ rfl
def xyz (a b c : Int) (n : Nat) : Int := if n = 0 then a else if n = 1 then b else if n = 2 then c else 0
theorem indexI_0 (a b c : Int) (w : World) : (Instr.index 105 (.agg #[.int .i64 a, .int .i64 b, .int .i64 c]) (.int .i64 (0 : Nat))).run Try.prog w = .ok (.int .i64 a) w := by kernel_rfl
theorem indexI_1 (a b c : Int) (w : World) : (Instr.index 105 (.agg #[.int .i64 a, .int .i64 b, .int .i64 c]) (.int .i64 (1 : Nat))).run Try.prog w = .ok (.int .i64 b) w := by kernel_rfl
theorem indexI_2 (a b c : Int) (w : World) : (Instr.index 105 (.agg #[.int .i64 a, .int .i64 b, .int .i64 c]) (.int .i64 (2 : Nat))).run Try.prog w = .ok (.int .i64 c) w := by kernel_rfl
theorem indexI (a b c : Int) (n : Nat) (h : n < 3) (w : World) : (Instr.index 105 (.agg #[.int .i64 a, .int .i64 b, .int .i64 c]) (.int .i64 n)).run Try.prog w = .ok (.int .i64 (xyz a b c n)) w := by
  rcases (by omega : n = 0 ∨ n = 1 ∨ n = 2) with rfl | rfl | rfl
  · exact indexI_0 _ _ _ w
  · exact indexI_1 _ _ _ w
  · exact indexI_2 _ _ _ w

/-! ### ir_Plain: function 33 -/
def ir_Plain.f (a0 : Int) : Option Bool := if 0 ≤ a0 then (if a0 ≤ 255 then some (shpAt a0).p else none) else none
set_option maxHeartbeats 4000000 in
theorem ir_Plain.calls (a0 : Int) (r : Bool) (w : World) (h : ir_Plain.f a0 = some r) :
    Calls Try.prog 33 #[.int .u8 a0] w fun e w' => e = .returned (.bool r) ∧ Below w.heap.size w w' := by
  unfold ir_Plain.f at h
  by_cases h0 : 0 ≤ a0
  · rw [if_pos h0] at h
    by_cases h1 : a0 ≤ 255
    · rw [if_pos h1] at h
      obtain rfl := Option.some.inj h
      have HO : ∀ w, Calls Try.prog 47 #[.int .u8 a0] w fun e w' => e = .returned (.tuple #[.agg (shpAt a0).cells.toArray, .bool (decide (a0 < 28))]) ∧ Below w.heap.size w w' := fun w => of_all a0 h0 h1 w
      clear h h0 h1
      generalize decide (a0 < 28) = bb at HO
      generalize shpAt a0 = s at HO ⊢
      replace HO := Aside0.mk HO
      go_enter Try.func33, Try.ntmps33
      go_wp2_with (first | (go_at_call 47; refine (HO.out _).mono ?_; rintro e wq ⟨rfl, hb⟩; have HB1 := Aside0.mk hb; clear hb) | (refine gate_ (.store 89 _ _) rfl ?_; refine wpList_store_row rfl 89 (.tmp 3) (.tmp 8) rfl wq.heap.size s.cells.toArray ?x1 ?x2 89 _ (blk_new wq _) ?h1 ?h2 ?h3 ?_; (case x1 => rfl); (case x2 => rfl); (case h1 => kernel_rfl); (case h2 => rfl); (case h3 => kernel_rfl); generalize hW2 : World.setRow _ _ _ = W2; have HA := Aside0.mk (after_box hW2 HB1.out); clear hW2; generalize wq.heap.size = g at HA ⊢; have hc := HA.out.2 4 _ rfl))
      go_ret
      exact ⟨rfl, HA.out.1⟩

    · rw [if_neg h1] at h
      exact absurd h (by simp)
  · rw [if_neg h0] at h
    exact absurd h (by simp)

/-! ### swap_touches: function 34 -/
def swap_touches.f (a0_0 : Int) (a0_1 : Int) (a0_2 : Int) (a0_3 : Int) : Option (Int × Bool) := if a0_0 = 7 then (some (a0_2, true)) else (if a0_0 = 8 then (some (a0_1, true)) else (some (0, false)))
set_option maxHeartbeats 8000000 in
set_option maxRecDepth 100000 in
theorem swap_touches.calls (a0_0 : Int) (a0_1 : Int) (a0_2 : Int) (a0_3 : Int) (r1 : Int) (r2 : Bool) (w : World) (h : swap_touches.f a0_0 a0_1 a0_2 a0_3 = some (r1, r2)) :
    Calls Try.prog 34 #[.agg #[.int .u8 a0_0, .int .i64 a0_1, .int .i64 a0_2, .int .i64 a0_3]] w fun e w' => e = .returned (.tuple #[.int .i64 r1, .bool r2]) ∧ Below w.heap.size w w' := by
  have hu33 := Try.underlying33
  have HB := Aside0.mk (Below.refl w.heap.size w)
  have H : (if a0_0 = 7 then (some (a0_2, true)) else (if a0_0 = 8 then (some (a0_1, true)) else (some (0, false)))) = some (r1, r2) := h
  clear h
  by_cases c2 : a0_0 = 7
  · rw [if_pos c2] at H
    have c2b0 : (a0_0 == 7) = true := beq_iff_eq.mpr c2
    have c2b1 : (a0_0 != 7) = false := bne_eq_false_iff_eq.mpr c2
    clear c2
    simp only [Option.some.injEq, Prod.mk.injEq] at H
    obtain ⟨rfl, rfl⟩ := H
    go_enter Try.func34, Try.ntmps34
    go_wp2_with (first | ((with_reducible refine gate_dst (N := 1) rfl ?_); refine box_event ?hg (N := 1) ?hd (cs := #[.int .u8 a0_0, .int .i64 a0_1, .int .i64 a0_2, .int .i64 a0_3]) (t := 33) ?hr ?_; (case hd => rfl); (case hg => rfl); (case hr => first | (go_simp; done) | (go_simp; rfl)); intro gb143 hg w3 hbox hb; have n0_ := Aside0.mk (below_step (by repeat (first | (with_reducible first | exact HB.out | apply below_alloc | apply pw_below_drewN | apply below_drew1) | exact HB.out)) hb); have n1_ := Aside0.mk (hbox); have n2_ := Aside0.mk ((by rw [hg]; exact (below_size (by repeat (first | (with_reducible first | exact HB.out | apply below_alloc | apply pw_below_drewN | apply below_drew1) | exact HB.out))) : w.heap.size ≤ gb143)); have n3_ := Aside0.mk ((by rw [hg]; exact (below_size (by repeat (first | (with_reducible first | exact HB.out | apply below_alloc | apply pw_below_drewN | apply below_drew1) | exact HB.out))) : w.heap.size ≤ gb143)); clear HB; have HB := n0_; have BK143 := n1_; have GW143 := n2_; have GE143 := n3_; clear n0_ n1_ n2_ n3_; clear hb hbox hg; have hcz4_0 : w3.cell? ⟨gb143, 0, none⟩ = some (.int .u8 a0_0) := (blk_cell BK143.out 0).trans rfl; have hcz4_1 : w3.cell? ⟨gb143, 1, none⟩ = some (.int .i64 a0_1) := (blk_cell BK143.out 1).trans rfl; have hcz4_2 : w3.cell? ⟨gb143, 2, none⟩ = some (.int .i64 a0_2) := (blk_cell BK143.out 2).trans rfl; have hcz4_3 : w3.cell? ⟨gb143, 3, none⟩ = some (.int .i64 a0_3) := (blk_cell BK143.out 3).trans rfl; have hfz4_0 := blk_frozen BK143.out 0; have hfz4_1 := blk_frozen BK143.out 1; have hfz4_2 := blk_frozen BK143.out 2; have hfz4_3 := blk_frozen BK143.out 3))
    go_ret2
    exact ⟨by first | rfl | (simp [errW_none, errW_some] <;> rfl) | (simp [*, errW_none, errW_some] <;> rfl), by repeat (first | (with_reducible first | exact HB.out | apply below_alloc | apply pw_below_drewN | apply below_drew1 | refine below_set ?_ GE143.out) | exact HB.out)⟩
  · rw [if_neg c2] at H
    have c2b0 : (a0_0 == 7) = false := beq_eq_false_iff_ne.mpr c2
    have c2b1 : (a0_0 != 7) = true := bne_iff_ne.mpr c2
    by_cases c5 : a0_0 = 8
    · rw [if_pos c5] at H
      have c5b0 : (a0_0 == 8) = true := beq_iff_eq.mpr c5
      have c5b1 : (a0_0 != 8) = false := bne_eq_false_iff_eq.mpr c5
      clear c5
      simp only [Option.some.injEq, Prod.mk.injEq] at H
      obtain ⟨rfl, rfl⟩ := H
      go_enter Try.func34, Try.ntmps34
      go_wp2_with (first | ((with_reducible refine gate_dst (N := 1) rfl ?_); refine box_event ?hg (N := 1) ?hd (cs := #[.int .u8 a0_0, .int .i64 a0_1, .int .i64 a0_2, .int .i64 a0_3]) (t := 33) ?hr ?_; (case hd => rfl); (case hg => rfl); (case hr => first | (go_simp; done) | (go_simp; rfl)); intro gb143 hg w6 hbox hb; have n0_ := Aside0.mk (below_step (by repeat (first | (with_reducible first | exact HB.out | apply below_alloc | apply pw_below_drewN | apply below_drew1) | exact HB.out)) hb); have n1_ := Aside0.mk (hbox); have n2_ := Aside0.mk ((by rw [hg]; exact (below_size (by repeat (first | (with_reducible first | exact HB.out | apply below_alloc | apply pw_below_drewN | apply below_drew1) | exact HB.out))) : w.heap.size ≤ gb143)); have n3_ := Aside0.mk ((by rw [hg]; exact (below_size (by repeat (first | (with_reducible first | exact HB.out | apply below_alloc | apply pw_below_drewN | apply below_drew1) | exact HB.out))) : w.heap.size ≤ gb143)); clear HB; have HB := n0_; have BK143 := n1_; have GW143 := n2_; have GE143 := n3_; clear n0_ n1_ n2_ n3_; clear hb hbox hg; have hcz7_0 : w6.cell? ⟨gb143, 0, none⟩ = some (.int .u8 a0_0) := (blk_cell BK143.out 0).trans rfl; have hcz7_1 : w6.cell? ⟨gb143, 1, none⟩ = some (.int .i64 a0_1) := (blk_cell BK143.out 1).trans rfl; have hcz7_2 : w6.cell? ⟨gb143, 2, none⟩ = some (.int .i64 a0_2) := (blk_cell BK143.out 2).trans rfl; have hcz7_3 : w6.cell? ⟨gb143, 3, none⟩ = some (.int .i64 a0_3) := (blk_cell BK143.out 3).trans rfl; have hfz7_0 := blk_frozen BK143.out 0; have hfz7_1 := blk_frozen BK143.out 1; have hfz7_2 := blk_frozen BK143.out 2; have hfz7_3 := blk_frozen BK143.out 3))
      go_ret2
      exact ⟨by first | rfl | (simp [errW_none, errW_some] <;> rfl) | (simp [*, errW_none, errW_some] <;> rfl), by repeat (first | (with_reducible first | exact HB.out | apply below_alloc | apply pw_below_drewN | apply below_drew1 | refine below_set ?_ GE143.out) | exact HB.out)⟩
    · rw [if_neg c5] at H
      have c5b0 : (a0_0 == 8) = false := beq_eq_false_iff_ne.mpr c5
      have c5b1 : (a0_0 != 8) = true := bne_iff_ne.mpr c5
      simp only [Option.some.injEq, Prod.mk.injEq] at H
      obtain ⟨rfl, rfl⟩ := H
      go_enter Try.func34, Try.ntmps34
      go_wp2_with (first | ((with_reducible refine gate_dst (N := 1) rfl ?_); refine box_event ?hg (N := 1) ?hd (cs := #[.int .u8 a0_0, .int .i64 a0_1, .int .i64 a0_2, .int .i64 a0_3]) (t := 33) ?hr ?_; (case hd => rfl); (case hg => rfl); (case hr => first | (go_simp; done) | (go_simp; rfl)); intro gb143 hg w8 hbox hb; have n0_ := Aside0.mk (below_step (by repeat (first | (with_reducible first | exact HB.out | apply below_alloc | apply pw_below_drewN | apply below_drew1) | exact HB.out)) hb); have n1_ := Aside0.mk (hbox); have n2_ := Aside0.mk ((by rw [hg]; exact (below_size (by repeat (first | (with_reducible first | exact HB.out | apply below_alloc | apply pw_below_drewN | apply below_drew1) | exact HB.out))) : w.heap.size ≤ gb143)); have n3_ := Aside0.mk ((by rw [hg]; exact (below_size (by repeat (first | (with_reducible first | exact HB.out | apply below_alloc | apply pw_below_drewN | apply below_drew1) | exact HB.out))) : w.heap.size ≤ gb143)); clear HB; have HB := n0_; have BK143 := n1_; have GW143 := n2_; have GE143 := n3_; clear n0_ n1_ n2_ n3_; clear hb hbox hg; have hcz9_0 : w8.cell? ⟨gb143, 0, none⟩ = some (.int .u8 a0_0) := (blk_cell BK143.out 0).trans rfl; have hcz9_1 : w8.cell? ⟨gb143, 1, none⟩ = some (.int .i64 a0_1) := (blk_cell BK143.out 1).trans rfl; have hcz9_2 : w8.cell? ⟨gb143, 2, none⟩ = some (.int .i64 a0_2) := (blk_cell BK143.out 2).trans rfl; have hcz9_3 : w8.cell? ⟨gb143, 3, none⟩ = some (.int .i64 a0_3) := (blk_cell BK143.out 3).trans rfl; have hfz9_0 := blk_frozen BK143.out 0; have hfz9_1 := blk_frozen BK143.out 1; have hfz9_2 := blk_frozen BK143.out 2; have hfz9_3 := blk_frozen BK143.out 3))
      go_ret2
      exact ⟨by first | rfl | (simp [errW_none, errW_some] <;> rfl) | (simp [*, errW_none, errW_some] <;> rfl), by repeat (first | (with_reducible first | exact HB.out | apply below_alloc | apply pw_below_drewN | apply below_drew1 | refine below_set ?_ GE143.out) | exact HB.out)⟩

/-! ### bits_bit: function 73 -/
def bits_bit.f (a0 : Int) : Option (Int) := if a0 < 0 then (some 0) else (if a0 ≥ 64 then (some 0) else (if 0 ≤ a0 then (some (shl .u64 1 a0)) else (none)))
set_option maxHeartbeats 8000000 in
set_option maxRecDepth 100000 in
theorem bits_bit.calls (a0 : Int) (r : Int) (w : World) (h : bits_bit.f a0 = some r) :
    Calls Try.prog 73 #[.int .i64 a0] w fun e w' => e = .returned (.int .u64 r) ∧ Drawn0 w w' := by
  have H : (if a0 < 0 then (some 0) else (if a0 ≥ 64 then (some 0) else (if 0 ≤ a0 then (some (shl .u64 1 a0)) else (none)))) = some r := h
  clear h
  by_cases c2 : a0 < 0
  · rw [if_pos c2] at H
    have c2b0 : decide (a0 < 0) = true := decide_eq_true c2
    clear c2
    obtain rfl := Option.some.inj H
    go_enter Try.func73, Try.ntmps73
    go_wp2
    go_ret
    exact ⟨by first | rfl | (simp; done) | (simp [*]; done), by repeat (first | exact Drawn0.refl _ | apply Drawn0.step)⟩
  · rw [if_neg c2] at H
    have c2b0 : decide (a0 < 0) = false := decide_eq_false c2
    clear c2
    by_cases c3 : a0 ≥ 64
    · rw [if_pos c3] at H
      have c3b0 : decide (64 ≤ a0) = true := decide_eq_true c3
      clear c3
      obtain rfl := Option.some.inj H
      go_enter Try.func73, Try.ntmps73
      go_wp2
      go_ret
      exact ⟨by first | rfl | (simp; done) | (simp [*]; done), by repeat (first | exact Drawn0.refl _ | apply Drawn0.step)⟩
    · rw [if_neg c3] at H
      have c3b0 : decide (64 ≤ a0) = false := decide_eq_false c3
      clear c3
      by_cases c4 : 0 ≤ a0
      · rw [if_pos c4] at H
        have c4b0 := eq_true c4
        have c4b1 : decide (0 ≤ a0) = true := decide_eq_true c4
        clear c4
        obtain ⟨ji5, hji5⟩ : ∃ j_ : Int, (shl .u64 1 a0) = j_ := ⟨_, rfl⟩
        replace H : (some ji5) = some r := by first | (rw [hji5] at H; exact H) | (simp only [hji5] at H ⊢; exact H)
        have hji5_ : (IntKind.u64.wrap (1 * 2 ^ min a0.toNat 64)) = ji5 := hji5
        have hji5z : a0 ≤ 64 → (IntKind.u64.wrap (1 * 2 ^ a0.toNat)) = ji5 := shl_small hji5
        have hji5u : (IntKind.u64.wrap (2 ^ min a0.toNat 64)) = ji5 := by have h_ := hji5_; rw [Int.one_mul] at h_; exact h_
        have hji5v : a0 ≤ 64 → (IntKind.u64.wrap (2 ^ a0.toNat)) = ji5 := fun hle_ => by have h_ := hji5z hle_; rw [Int.one_mul] at h_; exact h_
        obtain rfl := Option.some.inj H
        go_enter Try.func73, Try.ntmps73
        go_wp2
        go_ret
        exact ⟨by first | rfl | (simp; done) | (simp only [← hji5] <;> (first | rfl | (simp; done))) | (simp [*]; done), by repeat (first | exact Drawn0.refl _ | apply Drawn0.step)⟩
      · rw [if_neg c4] at H
        exact absurd H (by simp)

/-! ### bits_With: function 60 -/
def bits_With.l0 : Nat → Int → List Int → Int → Int → Option (Int)
  | 0, _, _, _, _ => none
  | k + 1, x0, x7, x8, x9 => if x9 < x8 then (if 0 ≤ x9 then (if x9 < (x7.length : Int) then ((bits_bit.f (rd x7 x9)).bind fun t145 => (bits_With.l0 k (Go.bits .or .u64 x0 t145) x7 x8 (wrap64 (x9 + 1)))) else (none)) else (none)) else (some x0)
def bits_With.f (k : Nat) (a0 : Int) (l1 : List Int) : Option (Int) := bits_With.l0 k a0 l1 (l1.length : Int) 0
theorem bits_With.mono_l : ∀ k, (∀ y0 y1 y2 y3, LeO (bits_With.l0 k y0 y1 y2 y3) (bits_With.l0 (k + 1) y0 y1 y2 y3))
  | 0 => fun _ _ _ _ r h => by simp [bits_With.l0] at h
  | k + 1 => by
    have ih0 := bits_With.mono_l k
    · intro y0 y1 y2 y3
      unfold bits_With.l0
      repeat' first
      | (with_reducible exact ih0 _ _ _ _)
      | (with_reducible exact LeO.refl _)
      | (with_reducible exact LeO.none _)
      | (with_reducible refine LeO.ite ?_ ?_)
      | (with_reducible refine LeO.bind ?_ (fun _ => ?_))
      | exact ih0 _ _ _ _
      | exact LeO.none _
      | refine LeO.ite ?_ ?_
      | refine LeO.bind ?_ (fun _ => ?_)
theorem bits_With.mono : ∀ a0 a1 k, LeO (bits_With.f k a0 a1) (bits_With.f (k + 1) a0 a1) := by
  intro a0 a1 k
  have ih0 := bits_With.mono_l k
  unfold bits_With.f
  repeat' first
      | (with_reducible exact ih0 _ _ _ _)
      | (with_reducible exact LeO.refl _)
      | (with_reducible exact LeO.none _)
      | (with_reducible refine LeO.ite ?_ ?_)
      | (with_reducible refine LeO.bind ?_ (fun _ => ?_))
      | exact ih0 _ _ _ _
      | exact LeO.none _
      | refine LeO.ite ?_ ?_
      | refine LeO.bind ?_ (fun _ => ?_)
set_option maxHeartbeats 8000000 in
set_option maxRecDepth 100000 in
theorem bits_With.calls (k : Nat) (a0 : Int) (A1 : Option Addr) (c1 : Nat) (l1 : List Int) (r : Int) (w : World) (hr1 : Kd.C (Kd.int .i64) w A1 l1.length l1) (hc1 : l1.length ≤ c1) (h : bits_With.f k a0 l1 = some r) :
    Calls Try.prog 60 #[.int .u64 a0, .slice A1 l1.length c1] w fun e w' => e = .returned (.int .u64 r) ∧ Drawn0 w w' := by
  have HR1 := Aside0.mk hr1
  have HC1 := Aside0.mk hc1
  clear hr1 hc1
  have H : (bits_With.l0 k a0 l1 (l1.length : Int) 0) = some r := h
  clear h
  have H' := Aside0.mk H
  clear H
  go_enter Try.func60, Try.ntmps60
  go_wp2
  go_loopg [0, 9] k (fun kq v0 v9 w' => ∃ (x0_1 : Int) (x9_1 : Int), v0 = .int .u64 x0_1 ∧ v9 = .int .i64 x9_1 ∧ Aside0 (bits_With.l0 kq x0_1 l1 (l1.length : Int) x9_1 = some r) ∧ Aside0 (kq ≤ k) ∧ Drawn0 w w')
  case atStart => exact ⟨(a0), (0), (by first | rfl | (simp; done) | (simp [*]; done)), (by first | rfl | (simp; done) | (simp [*]; done)), H', ⟨Nat.le_refl _⟩, by repeat (first | exact Drawn0.refl _ | apply Drawn0.step)⟩
  case round =>
    clear H'
    try clear c1
    try clear p2
    obtain ⟨x0_1, x9_1, rfl, rfl, HA, HK1, ⟨m1, rfl⟩⟩ := hrel
    cases gk with
    | zero => exact absurd HA.out (by simp [bits_With.l0])
    | succ k1 =>
      have H := HA.out
      clear HA
      simp only [bits_With.l0] at H
      by_cases c3 : x9_1 < (l1.length : Int)
      · rw [if_pos c3] at H
        have c3b0 : decide (x9_1 < (l1.length : Int)) = true := decide_eq_true c3
        clear c3
        by_cases c4 : 0 ≤ x9_1
        · rw [if_pos c4] at H
          have c4b0 : decide (0 ≤ x9_1) = true := decide_eq_true c4
          clear c4
          by_cases c5 : x9_1 < (l1.length : Int)
          · rw [if_pos c5] at H
            have c5b0 : decide (x9_1 < (l1.length : Int)) = true := decide_eq_true c5
            clear c5
            replace H := Option.bind_eq_some_iff.mp H
            obtain ⟨t145, A60, H⟩ := H
            replace H : (bits_With.l0 k1 (Go.bits .or .u64 x0_1 t145) l1 (l1.length : Int) (wrap64 (x9_1 + 1))) = some r := H
            have A6 := Aside0.mk A60
            clear A60
            have H' := Aside0.mk H
            clear H
            have p144 : 0 ≤ (x9_1 : Int) := of_decide_eq_true (by first | (with_reducible assumption) | assumption)
            have q144 : x9_1 < (l1.length : Int) := of_decide_eq_true (by first | (with_reducible assumption) | assumption)
            obtain ⟨ad144, e144, hx144_0⟩ := Kd.at_int HR1.out x9_1 p144 q144
            cases e144
            replace p144 := eq_true p144
            replace q144 := eq_true q144
            go_wp2_with (first | ((with_reducible refine gate_callee (f := 73) rfl ?_); refine goesL_ (some 15) rfl rfl Try.func73 (by kernel_rfl) rfl #[.int .i64 (rd l1 x9_1)] rfl (by (try simp only [List.map_toArray, List.map_cons, List.map_nil]); first | done | rfl | (simp only [List.length_drop, List.length_take]; rfl)) ?_; (with_reducible refine (bits_bit.calls (rd l1 x9_1) t145 _ A6.out).mono ?_); rintro e w' ⟨rfl, ⟨nd, rfl⟩⟩; refine ⟨_, rfl, ?_⟩))
            go_roundg k1
            case measure => have := HK1.out; omega
            case rel => exact ⟨(Go.bits .or .u64 x0_1 t145), (wrap64 (x9_1 + 1)), (by first | rfl | (simp; done) | (simp [*]; done)), (by first | rfl | (simp; done) | (simp [*]; done)), H', ⟨by have := HK1.out; omega⟩, by repeat (first | exact Drawn0.refl _ | apply Drawn0.step)⟩
          · rw [if_neg c5] at H
            exact absurd H (by simp)
        · rw [if_neg c4] at H
          exact absurd H (by simp)
      · rw [if_neg c3] at H
        have c3b0 : decide (x9_1 < (l1.length : Int)) = false := decide_eq_false c3
        clear c3
        obtain rfl := Option.some.inj H
        go_wp2
        go_ret
        exact ⟨by first | rfl | (simp; done) | (simp [*]; done), by repeat (first | exact Drawn0.refl _ | apply Drawn0.step)⟩

/-! ### ir_registers: function 48 -/
def regTo (k : Nat) (s : Shp) (x : Nat → Int) (wd : Int) : Nat → Option Int
  | 0 => some 0
  | n + 1 => (regTo k s x wd n).bind fun o => if s.w n = wd then bits_With.f k o [x n] else some o
theorem regTo_mono (k : Nat) (s : Shp) (x : Nat → Int) (wd : Int) : ∀ n, LeO (regTo k s x wd n) (regTo (k + 1) s x wd n)
  | 0 => LeO.refl _
  | n + 1 => LeO.bind (regTo_mono k s x wd n) (fun o => LeO.ite (bits_With.mono _ _ _) (LeO.refl _))
theorem regTo_down {k : Nat} {s : Shp} {x : Nat → Int} {wd : Int} {n : Nat} {r : Int} (h : regTo k s x wd (n + 1) = some r) : ∃ o, regTo k s x wd n = some o ∧ (if s.w n = wd then bits_With.f k o [x n] else some o) = some r := Option.bind_eq_some_iff.1 h
def ir_registers.f (k : Nat) (a0_0 : Int) (a0_1 : Int) (a0_2 : Int) (a0_3 : Int) (a1 : Int) : Option (Int) := if 0 ≤ a0_0 then (if a0_0 ≤ 255 then regTo k (shpAt a0_0) (xyz a0_1 a0_2 a0_3) a1 3 else none) else none
theorem ir_registers.mono : ∀ a0 a1 a2 a3 a4 k, LeO (ir_registers.f k a0 a1 a2 a3 a4) (ir_registers.f (k + 1) a0 a1 a2 a3 a4) := fun _ _ _ _ _ k => LeO.ite (LeO.ite (regTo_mono k _ _ _ 3) (LeO.none _)) (LeO.none _)
theorem one_C (W : World) (x : Int) (t : Nat) : Kd.C (Kd.int .i64) (W.alloc (.cells #[.int .i64 x] t)) (some ⟨W.heap.size, 0, none⟩) [x].length [x] := by
  refine Kd.C_of_reads (d := (0 : Int)) ⟨rfl, by simp, fun _ => ⟨_, rfl, fun j hj => ?_⟩⟩
  obtain rfl : j = 0 := by simp at hj; omega
  rw [add_plain]
  exact (blk_cell (blk_new W _) 0).trans rfl
theorem regTo_some {k : Nat} {s : Shp} {x : Nat → Int} {wd r : Int} {n : Nat} : ∀ m, regTo k s x wd (n + m) = some r → ∃ o, regTo k s x wd n = some o
  | 0, h => ⟨r, h⟩
  | m + 1, h => by
    obtain ⟨o, h1, _⟩ := regTo_down h
    exact regTo_some (r := o) m h1
theorem regTo_next {k : Nat} {s : Shp} {x : Nat → Int} {wd r o : Int} {n : Nat} (h : regTo k s x wd 3 = some r) (hn : n < 3) (ho : regTo k s x wd n = some o) : ∃ q, regTo k s x wd (n + 1) = some q ∧ (s.w n = wd → bits_With.f k o [x n] = some q) ∧ (s.w n ≠ wd → q = o) := by
  obtain ⟨q, hq⟩ := regTo_some (n := n + 1) (2 - n) (by rw [show n + 1 + (2 - n) = 3 by omega]; exact h)
  obtain ⟨o', h1, h2⟩ := regTo_down hq
  obtain rfl := Option.some.inj (ho.symm.trans h1)
  refine ⟨q, hq, fun e => by rw [if_pos e] at h2; exact h2, fun e => by rw [if_neg e] at h2; exact (Option.some.inj h2).symm⟩
set_option maxHeartbeats 4000000 in
theorem ir_registers.calls (k : Nat) (a0_0 : Int) (a0_1 : Int) (a0_2 : Int) (a0_3 : Int) (a1 : Int) (r : Int) (w : World) (h : ir_registers.f k a0_0 a0_1 a0_2 a0_3 a1 = some r) :
    Calls Try.prog 48 #[.agg #[.int .u8 a0_0, .int .i64 a0_1, .int .i64 a0_2, .int .i64 a0_3], .int .u8 a1] w fun e w' => e = .returned (.int .u64 r) ∧ Below w.heap.size w w' := by
  unfold ir_registers.f at h
  by_cases h0 : 0 ≤ a0_0
  · rw [if_pos h0] at h
    by_cases h1 : a0_0 ≤ 255
    · rw [if_pos h1] at h
      have HO : ∀ w, Calls Try.prog 47 #[.int .u8 a0_0] w fun e w' => e = .returned (.tuple #[.agg (shpAt a0_0).cells.toArray, .bool (decide (a0_0 < 28))]) ∧ Below w.heap.size w w' := fun w => of_all a0_0 h0 h1 w
      clear h0 h1
      generalize decide (a0_0 < 28) = bb at HO
      generalize shpAt a0_0 = s at HO h
      replace HO := Aside0.mk HO
      have HR := Aside0.mk h
      clear h
      have HB0 := Aside0.mk (below_alloc (Below.refl w.heap.size w) (.cells #[.int .u8 a0_0, .int .i64 a0_1, .int .i64 a0_2, .int .i64 a0_3] 33))
      go_enter Try.func48, Try.ntmps48
      go_wp2_with (first | (go_at_call 47; refine (HO.out _).mono ?_; rintro e wq ⟨rfl, hb⟩; have HB1 := Aside0.mk hb; clear hb) | (refine gate_ (.store 89 _ _) rfl ?_; refine wpList_store_row rfl 89 (.tmp 5) (.tmp 14) rfl wq.heap.size s.cells.toArray ?x1 ?x2 89 _ (blk_new wq _) ?h1 ?h2 ?h3 ?_; (case x1 => rfl); (case x2 => rfl); (case h1 => kernel_rfl); (case h2 => rfl); (case h3 => kernel_rfl); generalize hW2 : World.setRow _ _ _ = W2; have HA := Aside0.mk (after_box hW2 HB1.out); clear hW2; generalize wq.heap.size = g at HA ⊢; have HX := Aside0.mk (blk_below (blk_new w _) HA.out.1); have hd1 := (blk_cell HX.out 1).trans rfl; have hd2 := (blk_cell HX.out 2).trans rfl; have hd3 := (blk_cell HX.out 3).trans rfl))
      clear hd1 hd2 hd3
      have HBW := Aside0.mk (below_open HA.out.1)
      have HC := Aside0.mk HA.out.2
      clear HA HX HB0 HO
      go_loopw [7, 23] (fun v7 v23 wr => ∃ (n : Nat) (o : Int), n ≤ 3 ∧ v23 = .int .i64 (n : Int) ∧ v7 = .int .u64 o ∧ Aside0 (regTo k s (xyz a0_1 a0_2 a0_3) a1 n = some o) ∧ Aside0 (Below W2.heap.size W2 wr)) (fun _ v23 _ => 3 - (intOf v23).toNat)
      case atStart => exact ⟨0, 0, by omega, rfl, rfl, ⟨rfl⟩, ⟨Below.refl _ _⟩⟩
      case round =>
        obtain ⟨n, o, hn, rfl, rfl, HRn, HBn⟩ := hrel
        by_cases hlt : n < 3
        · obtain ⟨q, hq1, hq2, hq3⟩ := regTo_next HR.out hlt HRn.out
          have HQ := Aside0.mk hq1
          have hi := indexI a0_1 a0_2 a0_3 n hlt
          have hcn := pw_cell_below HBn.out (shp_at HC.out n hlt)
          clear hq1
          generalize xyz a0_1 a0_2 a0_3 n = x at hq2 hi
          generalize s.w n = y at hq2 hq3 hcn
          by_cases hy : y = a1
          · have HW := Aside0.mk (hq2 hy)
            have d1 : (y == a1) = true := by simp [hy]
            clear hq2 hq3 hy
            go_wp2_with (go_at_call 60; refine (bits_With.calls k o (some ⟨wr.heap.size, 0, none⟩) 1 [x] q _ (one_C wr x 3) (by simp) HW.out).mono ?_; rintro e w' ⟨rfl, ⟨nd, rfl⟩⟩)
            go_roundw
            case rel => exact ⟨n + 1, q, by omega, by go_num, rfl, HQ, ⟨pw_below_drewN (below_alloc HBn.out _) _⟩⟩
            case measure => simp [intOf]; omega
          · have HW := Aside0.mk (hq3 hy)
            have d1 : (y == a1) = false := by simp [hy]
            clear hq2 hq3 hy
            go_wp2
            go_roundw
            case rel => exact ⟨n + 1, q, by omega, by go_num, by rw [HW.out], HQ, HBn⟩
            case measure => simp [intOf]; omega
        · obtain rfl : n = 3 := by omega
          obtain rfl : o = r := Option.some.inj (HRn.out.symm.trans HR.out)
          go_wp2
          go_ret
          exact ⟨rfl, below_step HBW.out HBn.out⟩
    · rw [if_neg h1] at h
      exact absurd h (by simp)
  · rw [if_neg h0] at h
    exact absurd h (by simp)

/-! ### ir_Sets: function 35 -/
def ir_Sets.f (k : Nat) (a0_0 : Int) (a0_1 : Int) (a0_2 : Int) (a0_3 : Int) : Option (Int) := (ir_registers.f k a0_0 a0_1 a0_2 a0_3 2).bind fun t147 => (some t147)
theorem ir_Sets.mono : ∀ a0 a1 a2 a3 k, LeO (ir_Sets.f k a0 a1 a2 a3) (ir_Sets.f (k + 1) a0 a1 a2 a3) := by
  intro a0 a1 a2 a3 k
  unfold ir_Sets.f
  repeat' first
      | (with_reducible exact ir_registers.mono _ _ _ _ _ _)
      | (with_reducible exact LeO.refl _)
      | (with_reducible exact LeO.none _)
      | (with_reducible refine LeO.ite ?_ ?_)
      | (with_reducible refine LeO.bind ?_ (fun _ => ?_))
      | exact LeO.none _
      | refine LeO.ite ?_ ?_
      | refine LeO.bind ?_ (fun _ => ?_)
set_option maxHeartbeats 8000000 in
set_option maxRecDepth 100000 in
theorem ir_Sets.calls (k : Nat) (a0_0 : Int) (a0_1 : Int) (a0_2 : Int) (a0_3 : Int) (r : Int) (w : World) (h : ir_Sets.f k a0_0 a0_1 a0_2 a0_3 = some r) :
    Calls Try.prog 35 #[.agg #[.int .u8 a0_0, .int .i64 a0_1, .int .i64 a0_2, .int .i64 a0_3]] w fun e w' => e = .returned (.int .u64 r) ∧ Below w.heap.size w w' := by
  have hu33 := Try.underlying33
  have HB := Aside0.mk (Below.refl w.heap.size w)
  have H : ((ir_registers.f k a0_0 a0_1 a0_2 a0_3 2).bind fun t147 => (some t147)) = some r := h
  clear h
  replace H := Option.bind_eq_some_iff.mp H
  obtain ⟨t147, A20, H⟩ := H
  replace H : (some t147) = some r := H
  have A2 := Aside0.mk A20
  clear A20
  obtain rfl := Option.some.inj H
  go_enter Try.func35, Try.ntmps35
  go_wp2_with (first | ((with_reducible refine gate_dst (N := 1) rfl ?_); refine box_event ?hg (N := 1) ?hd (cs := #[.int .u8 a0_0, .int .i64 a0_1, .int .i64 a0_2, .int .i64 a0_3]) (t := 33) ?hr ?_; (case hd => rfl); (case hg => rfl); (case hr => first | (go_simp; done) | (go_simp; rfl)); intro gb146 hg w3 hbox hb; have n0_ := Aside0.mk (below_step (by repeat (first | (with_reducible first | exact HB.out | apply below_alloc | apply pw_below_drewN | apply below_drew1) | exact HB.out)) hb); have n1_ := Aside0.mk (hbox); have n2_ := Aside0.mk ((by rw [hg]; exact (below_size (by repeat (first | (with_reducible first | exact HB.out | apply below_alloc | apply pw_below_drewN | apply below_drew1) | exact HB.out))) : w.heap.size ≤ gb146)); have n3_ := Aside0.mk ((by rw [hg]; exact (below_size (by repeat (first | (with_reducible first | exact HB.out | apply below_alloc | apply pw_below_drewN | apply below_drew1) | exact HB.out))) : w.heap.size ≤ gb146)); clear HB; have HB := n0_; have BK146 := n1_; have GW146 := n2_; have GE146 := n3_; clear n0_ n1_ n2_ n3_; clear hb hbox hg; have hcz4_0 : w3.cell? ⟨gb146, 0, none⟩ = some (.int .u8 a0_0) := (blk_cell BK146.out 0).trans rfl; have hcz4_1 : w3.cell? ⟨gb146, 1, none⟩ = some (.int .i64 a0_1) := (blk_cell BK146.out 1).trans rfl; have hcz4_2 : w3.cell? ⟨gb146, 2, none⟩ = some (.int .i64 a0_2) := (blk_cell BK146.out 2).trans rfl; have hcz4_3 : w3.cell? ⟨gb146, 3, none⟩ = some (.int .i64 a0_3) := (blk_cell BK146.out 3).trans rfl; have hfz4_0 := blk_frozen BK146.out 0; have hfz4_1 := blk_frozen BK146.out 1; have hfz4_2 := blk_frozen BK146.out 2; have hfz4_3 := blk_frozen BK146.out 3) | ((with_reducible refine gate_callee (f := 48) rfl ?_); refine goesL_ (some 4) rfl rfl Try.func48 (by kernel_rfl) rfl #[.agg #[.int .u8 a0_0, .int .i64 a0_1, .int .i64 a0_2, .int .i64 a0_3], .int .u8 2] rfl (by (try simp only [List.map_toArray, List.map_cons, List.map_nil]); first | done | rfl | (simp only [List.length_drop, List.length_take]; rfl)) ?_; (with_reducible refine (ir_registers.calls k a0_0 a0_1 a0_2 a0_3 2 t147 _ A2.out).mono ?_); rintro e w5 ⟨rfl, hb⟩; refine ⟨_, rfl, ?_⟩; have n0_ := Aside0.mk (blk_below (g := gb146) (o := .cells #[.int .u8 a0_0, .int .i64 a0_1, .int .i64 a0_2, .int .i64 a0_3] 33 (0, 0)) (by (with_reducible repeat (first | refine blk_drewN ?_ _ | refine blk_drew ?_ | refine blk_alloc ?_ _)); exact BK146.out) hb); have n1_ := Aside0.mk (below_step (by repeat (first | (with_reducible first | exact HB.out | apply below_alloc | apply pw_below_drewN | apply below_drew1 | refine below_set ?_ GE146.out) | exact HB.out)) hb); clear BK146; clear HB; have BK146 := n0_; have HB := n1_; clear n0_ n1_; (try clear hb); (try clear hb2); (try clear hk); (try clear hi)))
  go_ret
  exact ⟨by first | rfl | (simp [errW_none, errW_some] <;> rfl) | (simp [*, errW_none, errW_some] <;> rfl), by repeat (first | (with_reducible first | exact HB.out | apply below_alloc | apply pw_below_drewN | apply below_drew1 | refine below_set ?_ GE146.out) | exact HB.out)⟩

/-! ### ir_Uses: function 36 -/
def ir_Uses.f (k : Nat) (a0_0 : Int) (a0_1 : Int) (a0_2 : Int) (a0_3 : Int) : Option (Int) := (ir_registers.f k a0_0 a0_1 a0_2 a0_3 3).bind fun t149 => (some t149)
theorem ir_Uses.mono : ∀ a0 a1 a2 a3 k, LeO (ir_Uses.f k a0 a1 a2 a3) (ir_Uses.f (k + 1) a0 a1 a2 a3) := by
  intro a0 a1 a2 a3 k
  unfold ir_Uses.f
  repeat' first
      | (with_reducible exact ir_registers.mono _ _ _ _ _ _)
      | (with_reducible exact LeO.refl _)
      | (with_reducible exact LeO.none _)
      | (with_reducible refine LeO.ite ?_ ?_)
      | (with_reducible refine LeO.bind ?_ (fun _ => ?_))
      | exact LeO.none _
      | refine LeO.ite ?_ ?_
      | refine LeO.bind ?_ (fun _ => ?_)
set_option maxHeartbeats 8000000 in
set_option maxRecDepth 100000 in
theorem ir_Uses.calls (k : Nat) (a0_0 : Int) (a0_1 : Int) (a0_2 : Int) (a0_3 : Int) (r : Int) (w : World) (h : ir_Uses.f k a0_0 a0_1 a0_2 a0_3 = some r) :
    Calls Try.prog 36 #[.agg #[.int .u8 a0_0, .int .i64 a0_1, .int .i64 a0_2, .int .i64 a0_3]] w fun e w' => e = .returned (.int .u64 r) ∧ Below w.heap.size w w' := by
  have hu33 := Try.underlying33
  have HB := Aside0.mk (Below.refl w.heap.size w)
  have H : ((ir_registers.f k a0_0 a0_1 a0_2 a0_3 3).bind fun t149 => (some t149)) = some r := h
  clear h
  replace H := Option.bind_eq_some_iff.mp H
  obtain ⟨t149, A20, H⟩ := H
  replace H : (some t149) = some r := H
  have A2 := Aside0.mk A20
  clear A20
  obtain rfl := Option.some.inj H
  go_enter Try.func36, Try.ntmps36
  go_wp2_with (first | ((with_reducible refine gate_dst (N := 1) rfl ?_); refine box_event ?hg (N := 1) ?hd (cs := #[.int .u8 a0_0, .int .i64 a0_1, .int .i64 a0_2, .int .i64 a0_3]) (t := 33) ?hr ?_; (case hd => rfl); (case hg => rfl); (case hr => first | (go_simp; done) | (go_simp; rfl)); intro gb148 hg w3 hbox hb; have n0_ := Aside0.mk (below_step (by repeat (first | (with_reducible first | exact HB.out | apply below_alloc | apply pw_below_drewN | apply below_drew1) | exact HB.out)) hb); have n1_ := Aside0.mk (hbox); have n2_ := Aside0.mk ((by rw [hg]; exact (below_size (by repeat (first | (with_reducible first | exact HB.out | apply below_alloc | apply pw_below_drewN | apply below_drew1) | exact HB.out))) : w.heap.size ≤ gb148)); have n3_ := Aside0.mk ((by rw [hg]; exact (below_size (by repeat (first | (with_reducible first | exact HB.out | apply below_alloc | apply pw_below_drewN | apply below_drew1) | exact HB.out))) : w.heap.size ≤ gb148)); clear HB; have HB := n0_; have BK148 := n1_; have GW148 := n2_; have GE148 := n3_; clear n0_ n1_ n2_ n3_; clear hb hbox hg; have hcz4_0 : w3.cell? ⟨gb148, 0, none⟩ = some (.int .u8 a0_0) := (blk_cell BK148.out 0).trans rfl; have hcz4_1 : w3.cell? ⟨gb148, 1, none⟩ = some (.int .i64 a0_1) := (blk_cell BK148.out 1).trans rfl; have hcz4_2 : w3.cell? ⟨gb148, 2, none⟩ = some (.int .i64 a0_2) := (blk_cell BK148.out 2).trans rfl; have hcz4_3 : w3.cell? ⟨gb148, 3, none⟩ = some (.int .i64 a0_3) := (blk_cell BK148.out 3).trans rfl; have hfz4_0 := blk_frozen BK148.out 0; have hfz4_1 := blk_frozen BK148.out 1; have hfz4_2 := blk_frozen BK148.out 2; have hfz4_3 := blk_frozen BK148.out 3) | ((with_reducible refine gate_callee (f := 48) rfl ?_); refine goesL_ (some 4) rfl rfl Try.func48 (by kernel_rfl) rfl #[.agg #[.int .u8 a0_0, .int .i64 a0_1, .int .i64 a0_2, .int .i64 a0_3], .int .u8 3] rfl (by (try simp only [List.map_toArray, List.map_cons, List.map_nil]); first | done | rfl | (simp only [List.length_drop, List.length_take]; rfl)) ?_; (with_reducible refine (ir_registers.calls k a0_0 a0_1 a0_2 a0_3 3 t149 _ A2.out).mono ?_); rintro e w5 ⟨rfl, hb⟩; refine ⟨_, rfl, ?_⟩; have n0_ := Aside0.mk (blk_below (g := gb148) (o := .cells #[.int .u8 a0_0, .int .i64 a0_1, .int .i64 a0_2, .int .i64 a0_3] 33 (0, 0)) (by (with_reducible repeat (first | refine blk_drewN ?_ _ | refine blk_drew ?_ | refine blk_alloc ?_ _)); exact BK148.out) hb); have n1_ := Aside0.mk (below_step (by repeat (first | (with_reducible first | exact HB.out | apply below_alloc | apply pw_below_drewN | apply below_drew1 | refine below_set ?_ GE148.out) | exact HB.out)) hb); clear BK148; clear HB; have BK148 := n0_; have HB := n1_; clear n0_ n1_; (try clear hb); (try clear hb2); (try clear hk); (try clear hi)))
  go_ret
  exact ⟨by first | rfl | (simp [errW_none, errW_some] <;> rfl) | (simp [*, errW_none, errW_some] <;> rfl), by repeat (first | (with_reducible first | exact HB.out | apply below_alloc | apply pw_below_drewN | apply below_drew1 | refine below_set ?_ GE148.out) | exact HB.out)⟩

end Go.Proofs.Yticdodbnjlnjlaa.P
