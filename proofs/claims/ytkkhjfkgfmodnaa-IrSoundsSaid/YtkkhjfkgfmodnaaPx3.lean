-- written by this project's xprint.py (a turn of the kit's printer; its own texts among them)
import Derived.Test.YtkkhjfkgfmodnaaPx0
namespace Go.Proofs.Ytkkhjfkgfmodnaa.P
open Go.RowKit Go.Proofs.YtkkhjfkgfmodnaaW.PrintWords Go.Proofs.YtkkhjfkgfmodnaaW.PrintLast Go.Proofs.YtkkhjfkgfmodnaaW.PrintMore
attribute [local go_sem] max2_int min2_int max_two min_two max_three min_three max_four min_four   -- for this text's walks alone
attribute [local irreducible] Calls
set_option linter.unusedVariables false
set_option linter.unusedSimpArgs false

/-! ### ir_out: function 30 -/
def ir_out.f (a0 : Int) (a1 : Int) (a2 : Int) : Option (Bool) := if a0 < a1 then (some true) else (some (decide (a0 > a2)))
set_option maxHeartbeats 8000000 in
set_option maxRecDepth 100000 in
theorem ir_out.calls (a0 : Int) (a1 : Int) (a2 : Int) (r : Bool) (w : World) (h : ir_out.f a0 a1 a2 = some r) :
    Calls Try.prog 30 #[.int .i64 a0, .int .i64 a1, .int .i64 a2] w fun e w' => e = .returned (.bool r) ∧ Drawn0 w w' := by
  have H : (if a0 < a1 then (some true) else (some (decide (a0 > a2)))) = some r := h
  clear h
  by_cases c4 : a0 < a1
  · rw [if_pos c4] at H
    have c4b0 : decide (a0 < a1) = true := decide_eq_true c4
    clear c4
    obtain rfl := Option.some.inj H
    go_enter Try.func30, Try.ntmps30
    go_wp2
    go_ret
    exact ⟨by first | rfl | (simp; done) | (simp [*]; done), by repeat (first | exact Drawn0.refl _ | apply Drawn0.step)⟩
  · rw [if_neg c4] at H
    have c4b0 : decide (a0 < a1) = false := decide_eq_false c4
    clear c4
    obtain rfl := Option.some.inj H
    go_enter Try.func30, Try.ntmps30
    go_wp2
    go_ret
    exact ⟨by first | rfl | (simp; done) | (simp [*]; done), by repeat (first | exact Drawn0.refl _ | apply Drawn0.step)⟩

/-! ### api_Ins_43: function 43 -/
-- taken with its maker

/-! ### api_Ins_31: function 31 -/
-- taken with its maker

/-! ### slices_IndexFunc_int_int: function 44 -/
-- taken with its maker

/-! ### slices_ContainsFunc_int_int: function 32 -/
-- taken with its maker

/-! ### ir_limits: function 34 -/
-- taken with its maker

/-! ### ir_shapes: function 42 -/
def ZSH : Array Value := (List.replicate 28 [Value.string { data := #[] }, Value.int IntKind.u8 0, Value.int IntKind.u8 0, Value.int IntKind.u8 0, Value.bool false, Value.bool false, Value.bool false]).flatten.toArray
theorem zvSH (w : World) : Sem.run Try.prog (zeroValue 73) w = .ok (.agg ZSH) w := by kernel_rfl

theorem math_any (s : ByteArray) (w : World) : Calls Try.prog 49 #[.string s] w fun e w' => e = .returned (.agg #[.string s, .int .u8 2, .int .u8 3, .int .u8 3, .bool true, .bool false, .bool false]) ∧ Below w.heap.size w w' := by
  go_enter Try.func49, Try.ntmps49
  go_wp2
  exact bodyPost_ret (v := .agg #[.string s, .int .u8 2, .int .u8 3, .int .u8 3, .bool true, .bool false, .bool false]) (by simp [results, Try.results49, go_sem]) rfl ⟨rfl, (Below.refl _ _).alloc (Nat.le_refl _) _⟩
theorem of_any (s : ByteArray) (k : Int) (a b : Bool) (w : World) : Calls Try.prog 50 #[.string s, .int .u8 k, .bool a, .bool b] w fun e w' => e = .returned (.agg #[.string s, .int .u8 k, .int .u8 0, .int .u8 0, .bool false, .bool a, .bool b]) ∧ Below w.heap.size w w' := by
  go_enter Try.func50, Try.ntmps50
  go_wp2
  exact bodyPost_ret (v := .agg #[.string s, .int .u8 k, .int .u8 0, .int .u8 0, .bool false, .bool a, .bool b]) (by simp [results, Try.results50, go_sem]) rfl ⟨rfl, (Below.refl _ _).alloc (Nat.le_refl _) _⟩

structure Shp where
  nm : List UInt8
  a : Int
  b : Int
  c : Int
  p : Bool
  q : Bool
  r : Bool
def Shp.cells (s : Shp) : List Value := [.string ⟨s.nm.toArray⟩, .int .u8 s.a, .int .u8 s.b, .int .u8 s.c, .bool s.p, .bool s.q, .bool s.r]
def Shp.zero : Shp := ⟨[], 0, 0, 0, false, false, false⟩
/-- The chapter's table. -/
def shpTab : List Shp := [
  ⟨[110, 111, 112], 0, 0, 0, true, false, false⟩,
  ⟨[99, 111, 110, 115, 116], 2, 1, 0, true, false, false⟩,
  ⟨[109, 111, 118, 101], 2, 3, 0, true, false, false⟩,
  ⟨[97, 100, 100], 2, 3, 3, true, false, false⟩,
  ⟨[115, 117, 98], 2, 3, 3, true, false, false⟩,
  ⟨[109, 117, 108], 2, 3, 3, true, false, false⟩,
  ⟨[108, 101, 115, 115], 2, 3, 3, true, false, false⟩,
  ⟨[108, 111, 97, 100], 2, 4, 0, true, false, false⟩,
  ⟨[115, 116, 111, 114, 101], 4, 3, 0, true, false, false⟩,
  ⟨[112, 114, 105, 110, 116], 3, 0, 0, false, false, false⟩,
  ⟨[106, 117, 109, 112], 5, 0, 0, false, false, false⟩,
  ⟨[122, 101, 114, 111], 3, 5, 0, false, false, false⟩,
  ⟨[103, 111], 6, 0, 0, false, false, true⟩,
  ⟨[108, 111, 99, 107], 7, 0, 0, false, true, false⟩,
  ⟨[117, 110, 108, 111, 99, 107], 7, 0, 0, false, false, true⟩,
  ⟨[114, 108, 111, 99, 107], 7, 0, 0, false, true, false⟩,
  ⟨[114, 117, 110, 108, 111, 99, 107], 7, 0, 0, false, false, true⟩,
  ⟨[114, 101, 97, 100], 2, 8, 0, false, true, false⟩,
  ⟨[119, 114, 105, 116, 101], 8, 3, 0, false, false, true⟩,
  ⟨[98, 117, 109, 112], 2, 8, 3, false, true, true⟩,
  ⟨[115, 101, 110, 100], 9, 3, 0, false, true, true⟩,
  ⟨[114, 101, 99, 118], 2, 9, 0, false, true, true⟩,
  ⟨[112, 111, 108, 108], 2, 9, 2, false, true, true⟩,
  ⟨[99, 108, 111, 115, 101], 9, 0, 0, false, false, true⟩,
  ⟨[103, 114, 111, 119], 10, 1, 0, false, false, true⟩,
  ⟨[119, 97, 105, 116], 10, 0, 0, false, true, false⟩,
  ⟨[98, 101, 103, 105, 110], 2, 11, 0, false, true, false⟩,
  ⟨[101, 110, 100], 11, 0, 0, false, false, true⟩]
def SH : Array Value := (shpTab.map Shp.cells).flatten.toArray
theorem wpList_build_as {P : Program} {ops : Array Oper} {rest : List Oper} {o : Oper} {a : Act} {w : World} {Q : Exit → Act → World → Prop} (cells : Array Value) (hg : o.guard = none) (t : TypeId) (parts : Array (Nat × Operand)) (ho : o.op = .build t parts)
    (hf : P.built t (parts.map fun (i, x) => (i, a.eval x)).toList = some cells)
    (h : wpList P ops Q rest (a.put o.dst (.agg cells)) w) : wpList P ops Q (o :: rest) a w :=
  wpList_build hg t parts ho (by rw [hf]; rfl) (by rw [hf]; exact h)
theorem below_setRow {w W : World} {g : Nat} {cs : Array Value} (h : Below w.heap.size w W) (hg : w.heap.size ≤ g) : Below w.heap.size w (W.setRow g cs) :=
  ⟨h.os, h.tape, h.output, by have := h.size; simpa using this, fun i hi => (setRow_other W g i cs (by omega)).trans (h.block i hi)⟩
theorem below_open {w W : World} {o : Obj} (h : Below (w.alloc o).heap.size (w.alloc o) W) : Below w.heap.size w W :=
  below_then (below_alloc (Below.refl _ _) o) (by simp) h
set_option maxHeartbeats 4000000 in
set_option maxRecDepth 100000 in
theorem shapes (w : World) : Calls Try.prog 42 #[] w fun e w' => e = .returned (.agg SH) ∧ Below w.heap.size w w' := by
  have hz := zvSH
  have HB := Aside0.mk (Below.refl (w.alloc (.cells ZSH 73)).heap.size (w.alloc (.cells ZSH 73)))
  go_enter Try.func42, Try.ntmps42
  go_wp2_with (first | (go_at_call 49; refine (math_any _ _).mono ?_; rintro e w' ⟨rfl, hb⟩; have HB1 := Aside0.mk (below_step HB.out hb); clear HB hb; have HB := HB1; clear HB1) | (go_at_call 50; refine (of_any _ _ _ _ _).mono ?_; rintro e w' ⟨rfl, hb⟩; have HB1 := Aside0.mk (below_step HB.out hb); clear HB hb; have HB := HB1; clear HB1) | (with_reducible refine gate_ (.build 73 _) rfl ?_; refine wpList_build_as SH rfl 73 _ rfl ?hf ?_; case hf => kernel_rfl) | (refine gate_ (.store 73 _ _) rfl ?_; refine wpList_store_row rfl 73 (.tmp 0) (.tmp 58) rfl w.heap.size SH ?x1 ?x2 73 ZSH ?hg ?h1 ?h2 ?h3 ?_; (case x1 => rfl); (case x2 => (kernel_rfl)); (case hg => exact blk_below (blk_new w _) HB.out); (case h1 => kernel_rfl); (case h2 => kernel_rfl); (case h3 => kernel_rfl)))
  
  refine bodyPost_ret (v := .agg SH) ?_ ?_ ?_
  · exact results_cell_row rfl _ _ w.heap.size 73 SH (0, 0) (.array 28 65) (by kernel_rfl) (setRow_heap _ _ ZSH SH _ _ (blk_below (blk_new w _) HB.out)) Try.underlying73 rfl (by kernel_rfl)
  · rfl
  · exact ⟨rfl, below_setRow (below_open HB.out) (Nat.le_refl _)⟩

/-! ### ir_of: function 37 -/
def shpAt (op : Int) : Shp := shpTab.getD op.toNat Shp.zero
theorem SH_at : ∀ i, i < 28 → SH[i * 7]? = some (.string ⟨(shpTab.getD i Shp.zero).nm.toArray⟩) ∧ SH[i * 7 + 1]? = some (.int .u8 (shpTab.getD i Shp.zero).a) ∧ SH[i * 7 + 2]? = some (.int .u8 (shpTab.getD i Shp.zero).b) ∧ SH[i * 7 + 3]? = some (.int .u8 (shpTab.getD i Shp.zero).c) ∧ SH[i * 7 + 4]? = some (.bool (shpTab.getD i Shp.zero).p) ∧ SH[i * 7 + 5]? = some (.bool (shpTab.getD i Shp.zero).q) ∧ SH[i * 7 + 6]? = some (.bool (shpTab.getD i Shp.zero).r)
  | 0, _ | 1, _ | 2, _ | 3, _ | 4, _ | 5, _ | 6, _ | 7, _ | 8, _ | 9, _ | 10, _ | 11, _ | 12, _ | 13, _ | 14, _ | 15, _ | 16, _ | 17, _ | 18, _ | 19, _ | 20, _ | 21, _ | 22, _ | 23, _ | 24, _ | 25, _ | 26, _ | 27, _ => ⟨by kernel_rfl, by kernel_rfl, by kernel_rfl, by kernel_rfl, by kernel_rfl, by kernel_rfl, by kernel_rfl⟩
  | n + 28, h => absurd h (by omega)
theorem setRow_cells {W : World} {g : Nat} (h : W.heap[g]? = some (.cells ZSH 73 (0, 0))) {i : Nat} {v : Value} (hv : SH[i]? = some v) : (W.setRow g SH).cell? ⟨g, i, none⟩ = some v :=
  (cell_setRow_same W g i ZSH SH 73 (0, 0) h).trans hv
theorem after_store {w wq : World} {o : Array Value} (hb : Below (w.alloc (.cells o 65)).heap.size (w.alloc (.cells o 65)) wq) :
    Below w.heap.size w ((wq.alloc (.cells ZSH 73)).setRow wq.heap.size SH) ∧ (∀ i v, SH[i]? = some v → ((wq.alloc (.cells ZSH 73)).setRow wq.heap.size SH).cell? ⟨wq.heap.size, i, none⟩ = some v) ∧ ((wq.alloc (.cells ZSH 73)).setRow wq.heap.size SH).heap[w.heap.size]? = some (.cells o 65 (0, 0)) := by
  have h1 : wq.heap[w.heap.size]? = some (.cells o 65 (0, 0)) := blk_below (blk_new w _) hb
  have h2 := blk_lt h1
  refine ⟨below_setRow (below_alloc (below_open hb) _) (by omega), fun i v hv => setRow_cells (blk_new wq _) hv, ?_⟩
  rw [setRow_other _ _ _ _ (by omega)]
  exact blk_alloc h1 _
set_option maxHeartbeats 4000000 in
set_option maxRecDepth 100000 in
theorem of_in (op : Int) (h0 : 0 ≤ op) (h1 : op < 28) (w : World) : Calls Try.prog 37 #[.int .u8 op] w fun e w' => e = .returned (.tuple #[.agg (shpAt op).cells.toArray, .bool true]) ∧ Below w.heap.size w w' := by
  have hz := zvSH
  obtain ⟨n, rfl⟩ := Int.eq_ofNat_of_zero_le h0
  have HT := SH_at n (by omega)
  show Calls Try.prog 37 #[.int .u8 n] w fun e w' => e = .returned (.tuple #[.agg (shpTab.getD n Shp.zero).cells.toArray, .bool true]) ∧ Below w.heap.size w w'
  generalize shpTab.getD n Shp.zero = s at HT ⊢
  replace HT := Aside0.mk HT
  go_enter Try.func37, Try.ntmps37
  go_wp2_with (first | (go_at_call 42; refine (shapes _).mono ?_; rintro e wq ⟨rfl, hb⟩; have HB1 := Aside0.mk hb; clear hb) | (refine gate_ (.store 73 _ _) rfl ?_; refine wpList_store_row rfl 73 (.tmp 4) (.tmp 5) rfl wq.heap.size SH ?x1 ?x2 73 ZSH ?hg ?h1 ?h2 ?h3 ?_; (case x1 => rfl); (case x2 => rfl); (case hg => exact blk_new wq _); (case h1 => kernel_rfl); (case h2 => kernel_rfl); (case h3 => kernel_rfl); have HA := Aside0.mk (after_store HB1.out); generalize World.setRow _ _ _ = W2 at HA ⊢; generalize wq.heap.size = g at HA ⊢; have hc := HA.out.2.1; have hc0 := hc _ _ HT.out.1; have hc1 := hc _ _ HT.out.2.1; have hc2 := hc _ _ HT.out.2.2.1; have hc3 := hc _ _ HT.out.2.2.2.1; have hc4 := hc _ _ HT.out.2.2.2.2.1; have hc5 := hc _ _ HT.out.2.2.2.2.2.1; have hc6 := hc _ _ HT.out.2.2.2.2.2.2; clear hc) | (refine gate_ (.store 65 _ _) rfl ?_; refine wpList_store_row rfl 65 (.tmp 2) (.tmp 12) rfl w.heap.size s.cells.toArray ?x1 ?x2 65 _ HA.out.2.2 ?h1 ?h2 ?h3 ?_; (case x1 => rfl); (case x2 => rfl); (case h1 => kernel_rfl); (case h2 => rfl); (case h3 => kernel_rfl)))
  refine bodyPost_ret (v := .tuple #[.agg s.cells.toArray, .bool true]) ?_ ?_ ?_
  · exact results_ct (p := 2) (u := 3) (ty := 65) rfl _ _ w.heap.size 65 s.cells.toArray (0, 0) _ rfl (setRow_heap _ _ _ _ _ _ HA.out.2.2) Try.underlying65 rfl (by kernel_rfl)
  · rfl
  · exact ⟨rfl, below_setRow HA.out.1 (Nat.le_refl _)⟩
set_option maxHeartbeats 4000000 in
set_option maxRecDepth 100000 in
theorem of_out (op : Int) (h1 : 28 ≤ op) (h2 : op ≤ 255) (w : World) : Calls Try.prog 37 #[.int .u8 op] w fun e w' => e = .returned (.tuple #[.agg (shpAt op).cells.toArray, .bool false]) ∧ Below w.heap.size w w' := by
  have hz := zvSH
  obtain ⟨n, rfl⟩ := Int.eq_ofNat_of_zero_le (show (0 : Int) ≤ op by omega)
  have hs : shpAt n = Shp.zero := by
    show shpTab.getD n Shp.zero = Shp.zero
    rw [List.getD_eq_getElem?_getD, List.getElem?_eq_none (by show 28 ≤ n; omega)]; rfl
  rw [hs]
  clear hs
  go_enter Try.func37, Try.ntmps37
  go_wp2_with (first | (go_at_call 42; refine (shapes _).mono ?_; rintro e wq ⟨rfl, hb⟩; have HB1 := Aside0.mk hb; clear hb) | (refine gate_ (.store 73 _ _) rfl ?_; refine wpList_store_row rfl 73 (.tmp 4) (.tmp 5) rfl wq.heap.size SH ?x1 ?x2 73 ZSH ?hg ?h1 ?h2 ?h3 ?_; (case x1 => rfl); (case x2 => rfl); (case hg => exact blk_new wq _); (case h1 => kernel_rfl); (case h2 => kernel_rfl); (case h3 => kernel_rfl); have HA := Aside0.mk (after_store HB1.out); generalize World.setRow _ _ _ = W2 at HA ⊢; generalize wq.heap.size = g at HA ⊢) | (refine gate_ (.store 65 _ _) rfl ?_; refine wpList_store_row rfl 65 (.tmp 2) (.tmp 9) rfl w.heap.size Shp.zero.cells.toArray ?x1 ?x2 65 _ HA.out.2.2 ?h1 ?h2 ?h3 ?_; (case x1 => rfl); (case x2 => rfl); (case h1 => kernel_rfl); (case h2 => rfl); (case h3 => kernel_rfl)))
  refine bodyPost_ret (v := .tuple #[.agg Shp.zero.cells.toArray, .bool false]) ?_ ?_ ?_
  · exact results_ct (p := 2) (u := 3) (ty := 65) rfl _ _ w.heap.size 65 Shp.zero.cells.toArray (0, 0) _ rfl (setRow_heap _ _ _ _ _ _ HA.out.2.2) Try.underlying65 rfl (by kernel_rfl)
  · rfl
  · exact ⟨rfl, below_setRow HA.out.1 (Nat.le_refl _)⟩
theorem of_all (op : Int) (h0 : 0 ≤ op) (h2 : op ≤ 255) (w : World) : Calls Try.prog 37 #[.int .u8 op] w fun e w' => e = .returned (.tuple #[.agg (shpAt op).cells.toArray, .bool (decide (op < 28))]) ∧ Below w.heap.size w w' := by
  by_cases h : op < 28
  · rw [decide_eq_true h]; exact of_in op h0 h w
  · rw [decide_eq_false h]; exact of_out op (by omega) h2 w

theorem after_box {w wq W2 : World} {o : Array Value} {s : Shp} (e : (wq.alloc (.cells o 65)).setRow wq.heap.size s.cells.toArray = W2) (hb : Below w.heap.size w wq) :
    Below w.heap.size w W2 ∧ (∀ i v, s.cells.toArray[i]? = some v → W2.cell? ⟨wq.heap.size, i, none⟩ = some v) := by
  subst e
  exact ⟨below_setRow (below_alloc hb _) hb.size, fun i _ hv => (cell_setRow_same _ _ i o _ 65 (0, 0) (blk_new wq _)).trans hv⟩
def Shp.w (s : Shp) (n : Nat) : Int := if n = 0 then s.a else if n = 1 then s.b else if n = 2 then s.c else 0
theorem index3_0 (a b c : Int) (w : World) : (Instr.index 63 (.agg #[.int .u8 a, .int .u8 b, .int .u8 c]) (.int .i64 (0 : Nat))).run Try.prog w = .ok (.int .u8 a) w := by kernel_rfl
theorem index3_1 (a b c : Int) (w : World) : (Instr.index 63 (.agg #[.int .u8 a, .int .u8 b, .int .u8 c]) (.int .i64 (1 : Nat))).run Try.prog w = .ok (.int .u8 b) w := by kernel_rfl
theorem index3_2 (a b c : Int) (w : World) : (Instr.index 63 (.agg #[.int .u8 a, .int .u8 b, .int .u8 c]) (.int .i64 (2 : Nat))).run Try.prog w = .ok (.int .u8 c) w := by kernel_rfl
theorem index3 (s : Shp) (n : Nat) (h : n < 3) (w : World) : (Instr.index 63 (.agg #[.int .u8 s.a, .int .u8 s.b, .int .u8 s.c]) (.int .i64 n)).run Try.prog w = .ok (.int .u8 (s.w n)) w := by
  rcases (by omega : n = 0 ∨ n = 1 ∨ n = 2) with rfl | rfl | rfl
  · exact index3_0 _ _ _ w
  · exact index3_1 _ _ _ w
  · exact index3_2 _ _ _ w
theorem shp_at {W : World} {g : Nat} {s : Shp} (h : ∀ i v, s.cells.toArray[i]? = some v → W.cell? ⟨g, i, none⟩ = some v) (n : Nat) (hn : n < 3) : W.cell? ⟨g, 1 + n, none⟩ = some (.int .u8 (s.w n)) := by
  rcases (by omega : n = 0 ∨ n = 1 ∨ n = 2) with rfl | rfl | rfl
  · exact h 1 _ rfl
  · exact h 2 _ rfl
  · exact h 3 _ rfl
def xyz (a b c : Int) (n : Nat) : Int := if n = 0 then a else if n = 1 then b else if n = 2 then c else 0
theorem indexI_0 (a b c : Int) (w : World) : (Instr.index 77 (.agg #[.int .i64 a, .int .i64 b, .int .i64 c]) (.int .i64 (0 : Nat))).run Try.prog w = .ok (.int .i64 a) w := by kernel_rfl
theorem indexI_1 (a b c : Int) (w : World) : (Instr.index 77 (.agg #[.int .i64 a, .int .i64 b, .int .i64 c]) (.int .i64 (1 : Nat))).run Try.prog w = .ok (.int .i64 b) w := by kernel_rfl
theorem indexI_2 (a b c : Int) (w : World) : (Instr.index 77 (.agg #[.int .i64 a, .int .i64 b, .int .i64 c]) (.int .i64 (2 : Nat))).run Try.prog w = .ok (.int .i64 c) w := by kernel_rfl
theorem indexI (a b c : Int) (n : Nat) (h : n < 3) (w : World) : (Instr.index 77 (.agg #[.int .i64 a, .int .i64 b, .int .i64 c]) (.int .i64 n)).run Try.prog w = .ok (.int .i64 (xyz a b c n)) w := by
  rcases (by omega : n = 0 ∨ n = 1 ∨ n = 2) with rfl | rfl | rfl
  · exact indexI_0 _ _ _ w
  · exact indexI_1 _ _ _ w
  · exact indexI_2 _ _ _ w

/-! ### ir_ins: function 35 -/
-- taken with its maker

/-! ### ir_Sound: function 12 -/
/-! A map of words to numbers, as the function that makes it holds it. -/
def look : List (Int × Int) → Int → Option Int
  | [], _ => none
  | (q, v) :: l, k => if k = q then some v else look l k
def Ents (es : List MapEntry) (L : List (Int × Int)) : Prop := es.map (fun e => (e.key, e.val)) = L.map (fun p => (Value.int .u8 p.1, Value.int .i64 p.2))
def MapIs (W : World) (b : Nat) (L : List (Int × Int)) : Prop := ∃ es c, W.heap[b]? = some (.map es c) ∧ Ents es.toList L
theorem ents_find {kd : IntKind} : ∀ (es : List MapEntry) (L : List (Int × Int)) (k : Int) (i : Nat), Ents es L → ∃ r, Instr.findNow (.int kd) (.int .u8 k) es i = some r ∧ r.map (·.2) = (look L k).map (Value.int .i64)
  | [], [], k, i, _ => ⟨none, rfl, rfl⟩
  | [], p :: L, k, i, h => by simp [Ents] at h
  | e :: es, [], k, i, h => by simp [Ents] at h
  | e :: es, (q, v) :: L, k, i, h => by
    unfold Ents at h
    rw [List.map_cons, List.map_cons] at h
    have h1 : (e.key, e.val) = (Value.int .u8 q, Value.int .i64 v) := (List.cons.inj h).1
    have h2 : Ents es L := (List.cons.inj h).2
    obtain ⟨hk, hv⟩ := Prod.mk.inj h1
    obtain ⟨r, h3, h4⟩ := ents_find (kd := kd) es L k (i + 1) h2
    unfold Instr.findNow look
    rw [hk]
    by_cases hq : k = q
    · rw [if_pos hq]
      exact ⟨some (i, e.val), by simp [Instr.sameNow, hq], by simp [hv]⟩
    · rw [if_neg hq]
      have hb : (k == q) = false := beq_eq_false_iff_ne.2 hq
      exact ⟨r, by simp [Instr.sameNow, hb, h3], h4⟩
theorem run_look {W : World} {b : Nat} {L : List (Int × Int)} (h : MapIs W b L) (k : Int) :
    (Instr.lookup 58 (.map (some b)) (.int .u8 k) true).run Try.prog W = .ok (.tuple #[.int .i64 ((look L k).getD 0), .bool (look L k).isSome]) W := by
  obtain ⟨es, c, hb, he⟩ := h
  obtain ⟨r, h1, h2⟩ := ents_find (kd := .u8) es.toList L k 0 he
  have hz : (zeroValue 3).run Try.prog W = .ok (.int .i64 0) W := by kernel_rfl
  have hck : (Instr.checkKey es.isEmpty 10000 62 (.int .u8 k)).run Try.prog W = .ok () W := by
    unfold Instr.checkKey
    simp [run_underlying Try.underlying62, Result.andThen]
  cases r with
  | none =>
    have h3 : look L k = none := by cases hl : look L k with | none => rfl | some v => rw [hl] at h2; simp at h2
    rw [h3]
    simp [Instr.lookup, run_underlying Try.underlying58, MapKept.run_getObj_map hb, hck, Instr.findKey, run_underlying Try.underlying62, h1, hz, Result.andThen]
  | some p =>
    obtain ⟨i, u⟩ := p
    cases hl : look L k with
    | none => rw [hl] at h2; simp at h2
    | some v =>
      rw [hl] at h2
      have hu : u = .int .i64 v := by simpa using h2
      subst hu
      simp [Instr.lookup, run_underlying Try.underlying58, MapKept.run_getObj_map hb, hck, Instr.findKey, run_underlying Try.underlying62, h1, hz, Result.andThen]
theorem run_ins {W : World} {b : Nat} {L : List (Int × Int)} (h : MapIs W b L) (k v : Int) (hk : look L k = none) :
    ∃ W', (Instr.mapUpdate 58 (.map (some b)) (.int .u8 k) (.int .i64 v)).run Try.prog W = .ok () W' ∧ MapIs W' b (L ++ [(k, v)]) ∧ W.grownBy W' (some b) := by
  obtain ⟨es, c, hb, he⟩ := h
  obtain ⟨r, h1, h2⟩ := ents_find (kd := .u8) es.toList L k 0 he
  rw [hk] at h2
  have hr : r = none := by cases r with | none => rfl | some p => simp at h2
  subst hr
  have hck : (Instr.checkKey false 10000 62 (.int .u8 k)).run Try.prog W = .ok () W := by
    unfold Instr.checkKey
    simp [run_underlying Try.underlying62, Result.andThen]
  refine ⟨_, by simp [Instr.mapUpdate, run_underlying Try.underlying58, MapKept.run_getObj_map hb, hck, Instr.findKey, run_underlying Try.underlying62, h1, MapKept.run_setObj_map _ hb, Result.andThen]; rfl, ⟨es.push { key := .int .u8 k, val := .int .i64 v, born := c }, c + 1, ?_, ?_⟩, ?_⟩
  · exact World.putObj_heap_same (blk_lt hb)
  · unfold Ents at he ⊢
    rw [Array.toList_push, List.map_append, List.map_append, he]
    rfl
  · exact grownBy_putObj' W b _
theorem MapIs.grown {W W' : World} {b : Nat} {L : List (Int × Int)} (h : MapIs W b L) {row : Option Nat} (hg : W.grownBy W' row) (hne : some b ≠ row) : MapIs W' b L := by
  obtain ⟨es, c, hb, he⟩ := h
  exact ⟨es, c, blk_grown hb hg hne, he⟩
theorem MapIs.below {W W' : World} {b : Nat} {L : List (Int × Int)} (h : MapIs W b L) (hb : Below W.heap.size W W') : MapIs W' b L := by
  obtain ⟨es, c, h1, he⟩ := h
  exact ⟨es, c, blk_below h1 hb, he⟩
theorem wpList_ins {W : World} {ops : Array Oper} {rest : List Oper} {o : Oper} {a : Act} {Q : Exit → Act → World → Prop} (hg : o.guard = none) (m k x : Operand) (ho : o.op = .insert 58 m k x)
    (b : Nat) (kk vv : Int) (L : List (Int × Int)) (hm : a.eval m = .map (some b)) (hk : a.eval k = .int .u8 kk) (hx : a.eval x = .int .i64 vv) (hM : MapIs W b L) (hl : look L kk = none)
    (hK : ∀ W', MapIs W' b (L ++ [(kk, vv)]) → W.grownBy W' (some b) → wpList Try.prog ops Q rest (a.put o.dst undef) W') : wpList Try.prog ops Q (o :: rest) a W := by
  refine wpList_plain hg fun K' hK' => ?_
  obtain ⟨w', hrun, r1, r2⟩ := run_ins hM kk vv hl
  unfold Oper.wp
  simp [execOp, ho, hm, hk, hx, hrun, Result.andThen]
  exact hK' _ _ (hK w' r1 r2)
def lims (V A L : Int) (c : Nat) (G O : Int) (t : Nat) (n : Int) : List (Int × Int) := [(2, 4), (3, 4), (4, V), (5, n + 1), (6, t), (7, L), (8, A), (9, c), (10, G), (11, O)]
set_option maxHeartbeats 8000000 in
set_option maxRecDepth 100000 in
theorem limits_any (V A L : Int) (AC : Option Addr) (cl cc : Nat) (G O : Int) (AT : Option Addr) (tl tc : Nat) (n : Int) (hn : 0 ≤ n ∧ n ≤ 140737488355328) (w : World) :
    Calls Try.prog 34 #[.agg #[.int .i64 V, .int .i64 A, .int .i64 L, .slice AC cl cc, .int .i64 G, .int .i64 O, .slice AT tl tc], .int .i64 n] w fun e w' =>
      ∃ b, e = .returned (.map (some b)) ∧ MapIs w' b (lims V A L cl G O tl n) ∧ Below w.heap.size w w' := by
  have hmm := @run_makeMap Try.prog
  have HX := Aside0.mk (blk_alloc (blk_new w (.cells #[.int .i64 V, .int .i64 A, .int .i64 L, .slice AC cl cc, .int .i64 G, .int .i64 O, .slice AT tl tc] 26)) (.map #[] 0))
  have HM := Aside0.mk (show MapIs ((w.alloc (.cells #[.int .i64 V, .int .i64 A, .int .i64 L, .slice AC cl cc, .int .i64 G, .int .i64 O, .slice AT tl tc] 26)).alloc (.map #[] 0)) (w.heap.size + 1) [] from ⟨#[], 0, by have := blk_new (w.alloc (.cells #[.int .i64 V, .int .i64 A, .int .i64 L, .slice AC cl cc, .int .i64 G, .int .i64 O, .slice AT tl tc] 26)) (.map #[] 0); rw [World.size_alloc] at this; exact this, rfl⟩)
  have HB := Aside0.mk (below_alloc (below_alloc (Below.refl w.heap.size w) (.cells #[.int .i64 V, .int .i64 A, .int .i64 L, .slice AC cl cc, .int .i64 G, .int .i64 O, .slice AT tl tc] 26)) (.map #[] 0))
  go_enter Try.func34, Try.ntmps34
  go_wp2_with (refine gate_ (.insert 58 _ _ _) rfl ?_; refine wpList_ins rfl _ _ _ rfl (w.heap.size + 1) _ _ _ rfl rfl rfl HM.out rfl ?_; intro W1 hM1 hg1; have HX1 := Aside0.mk (blk_grown HX.out hg1 (by simp)); have HB1 := Aside0.mk (HB.out.grown hg1 (by have := HB.out.size; omega) (by intro k e; cases e; omega)); clear HM HX HB hg1; have HM := Aside0.mk hM1; clear hM1; have HX := HX1; have HB := HB1; clear HX1 HB1; have hd0 := (blk_cell HX.out 0).trans rfl; have hd1 := (blk_cell HX.out 1).trans rfl; have hd2 := (blk_cell HX.out 2).trans rfl; have hd3 := (blk_cell HX.out 3).trans rfl; have hd4 := (blk_cell HX.out 4).trans rfl; have hd5 := (blk_cell HX.out 5).trans rfl; have hd6 := (blk_cell HX.out 6).trans rfl)
  go_ret
  exact ⟨_, rfl, HM.out, HB.out⟩
def bad1 (is : Bool) (wd x : Int) : Bool := !is || (wd == 0 && x != 0)
def bad2 (lk : Option Int) (wd x : Int) : Bool := (match lk with | some m => decide (x < 0) || decide (m ≤ x) | none => false) || (wd == 6 && x == 0)
def any1 (is : Bool) (s : Shp) (x : Nat → Int) : Nat → Bool
  | 0 => false
  | n + 1 => any1 is s x n || bad1 is (s.w n) (x n)
def any2 (L : List (Int × Int)) (s : Shp) (x : Nat → Int) : Nat → Bool
  | 0 => false
  | n + 1 => any2 L s x n || bad2 (look L (s.w n)) (s.w n) (x n)
theorem any1_up {is : Bool} {s : Shp} {x : Nat → Int} {n : Nat} (h : bad1 is (s.w n) (x n) = true) (hn : n < 3) : any1 is s x 3 = true := by
  rcases (by omega : n = 0 ∨ n = 1 ∨ n = 2) with rfl | rfl | rfl <;> simp [any1, h]
theorem any2_up {L : List (Int × Int)} {s : Shp} {x : Nat → Int} {n : Nat} (h : bad2 (look L (s.w n)) (s.w n) (x n) = true) (hn : n < 3) : any2 L s x 3 = true := by
  rcases (by omega : n = 0 ∨ n = 1 ∨ n = 2) with rfl | rfl | rfl <;> simp [any2, h]
def insBad (L : List (Int × Int)) (is : Bool) (s : Shp) (x : Nat → Int) : Int := if any1 is s x 3 = true then 20 else if any2 L s x 3 = true then 21 else 0
theorem arr_at (W : World) (a b c : Int) (n : Nat) (hn : n < 3) : (W.alloc (.cells #[.int .i64 a, .int .i64 b, .int .i64 c] 77)).cell? ⟨W.heap.size, n, none⟩ = some (.int .i64 (xyz a b c n)) := by
  refine (blk_cell (blk_new W _) n).trans ?_
  rcases (by omega : n = 0 ∨ n = 1 ∨ n = 2) with rfl | rfl | rfl <;> rfl
set_option maxHeartbeats 8000000 in
set_option maxRecDepth 100000 in
theorem ins_any (i0 i1 i2 i3 : Int) (h0 : 0 ≤ i0) (h1 : i0 ≤ 255) (b : Nat) (L : List (Int × Int)) (w : World) (hM : MapIs w b L) :
    Calls Try.prog 35 #[.agg #[.int .u8 i0, .int .i64 i1, .int .i64 i2, .int .i64 i3], .map (some b)] w fun e w' => e = .returned (.int .u16 (insBad L (decide (i0 < 28)) (shpAt i0) (xyz i1 i2 i3))) ∧ Below w.heap.size w w' := by
  have HO : ∀ w, Calls Try.prog 37 #[.int .u8 i0] w fun e w' => e = .returned (.tuple #[.agg (shpAt i0).cells.toArray, .bool (decide (i0 < 28))]) ∧ Below w.heap.size w w' := fun w => of_all i0 h0 h1 w
  clear h0 h1
  have HR := Aside0.mk (show insBad L (decide (i0 < 28)) (shpAt i0) (xyz i1 i2 i3) = if any1 (decide (i0 < 28)) (shpAt i0) (xyz i1 i2 i3) 3 = true then 20 else if any2 L (shpAt i0) (xyz i1 i2 i3) 3 = true then 21 else 0 from rfl)
  generalize insBad L (decide (i0 < 28)) (shpAt i0) (xyz i1 i2 i3) = res at HR ⊢
  generalize decide (i0 < 28) = bb at HO HR
  generalize shpAt i0 = s at HO HR
  replace HO := Aside0.mk HO
  have HM := Aside0.mk hM
  clear hM
  go_enter Try.func35, Try.ntmps35
  go_wp2_with (first | (go_at_call 37; refine (HO.out _).mono ?_; rintro e wq ⟨rfl, hb⟩; have HB1 := Aside0.mk hb; clear hb) | (refine gate_ (.store 65 _ _) rfl ?_; refine wpList_store_row rfl 65 (.tmp 5) (.tmp 18) rfl wq.heap.size s.cells.toArray ?x1 ?x2 65 _ (blk_new wq _) ?h1 ?h2 ?h3 ?_; (case x1 => rfl); (case x2 => rfl); (case h1 => kernel_rfl); (case h2 => rfl); (case h3 => kernel_rfl); generalize hW2 : World.setRow _ _ _ = W2; have HA := Aside0.mk (after_box hW2 HB1.out); clear hW2; generalize wq.heap.size = g at HA ⊢; have HX := Aside0.mk (blk_below (blk_new w _) HA.out.1); have hc1 : (W2.alloc (.cells #[.int .i64 i1, .int .i64 i2, .int .i64 i3] 77)).cell? ⟨g, 1, none⟩ = some (.int .u8 s.a) := pw_cell_below (below_alloc (Below.refl _ _) _) (HA.out.2 1 _ rfl); have hc2 : (W2.alloc (.cells #[.int .i64 i1, .int .i64 i2, .int .i64 i3] 77)).cell? ⟨g, 2, none⟩ = some (.int .u8 s.b) := pw_cell_below (below_alloc (Below.refl _ _) _) (HA.out.2 2 _ rfl); have hc3 : (W2.alloc (.cells #[.int .i64 i1, .int .i64 i2, .int .i64 i3] 77)).cell? ⟨g, 3, none⟩ = some (.int .u8 s.c) := pw_cell_below (below_alloc (Below.refl _ _) _) (HA.out.2 3 _ rfl); have hd1 : W2.cell? ⟨w.heap.size, 1, none⟩ = some (.int .i64 i1) := (blk_cell HX.out 1).trans rfl; have hd2 : W2.cell? ⟨w.heap.size, 2, none⟩ = some (.int .i64 i2) := (blk_cell HX.out 2).trans rfl; have hd3 : W2.cell? ⟨w.heap.size, 3, none⟩ = some (.int .i64 i3) := (blk_cell HX.out 3).trans rfl))
  obtain ⟨W3, hW3⟩ : ∃ W3, W2.alloc (.cells #[.int .i64 i1, .int .i64 i2, .int .i64 i3] 77) = W3 := ⟨_, rfl⟩
  have HB3 := Aside0.mk (show Below w.heap.size w W3 by rw [← hW3]; exact below_alloc (below_open HA.out.1) _)
  have HM3 := Aside0.mk (show MapIs W3 b L by rw [← hW3]; exact ((HM.out.below (below_alloc (Below.refl _ _) _)).below HA.out.1).below (below_alloc (Below.refl _ _) _))
  have HN := Aside0.mk (show ∀ n, n < 3 → W3.cell? ⟨W2.heap.size, n, none⟩ = some (.int .i64 (xyz i1 i2 i3 n)) by rw [← hW3]; exact arr_at W2 i1 i2 i3)
  have hs1 : W3.cell? ⟨g, 1, none⟩ = some (.int .u8 s.a) := by rw [← hW3]; exact hc1
  have hs2 : W3.cell? ⟨g, 2, none⟩ = some (.int .u8 s.b) := by rw [← hW3]; exact hc2
  have hs3 : W3.cell? ⟨g, 3, none⟩ = some (.int .u8 s.c) := by rw [← hW3]; exact hc3
  rw [hW3]
  clear hW3 hc1 hc2 hc3 hd1 hd2 hd3 HA HX HO HM HB1
  generalize W2.heap.size = g3 at HN ⊢
  generalize xyz i1 i2 i3 = x at HN HR
  go_loop [29] (fun v29 => ∃ n : Nat, n ≤ 3 ∧ v29 = .int .i64 (n : Int) ∧ Aside0 (∀ j, j < n → bad1 bb (s.w j) (x j) = false)) (fun v29 => 3 - (intOf v29).toNat)
  case atStart => exact ⟨0, by omega, rfl, ⟨fun j hj => absurd hj (Nat.not_lt_zero j)⟩⟩
  case round =>
    obtain ⟨n, hn, rfl, HG⟩ := hrel
    by_cases hlt : n < 3
    · have hi := index3 s n hlt
      have hx := HN.out n hlt
      have HU := Aside0.mk (fun h => @any1_up bb s x n h hlt)
      have HG1 := Aside0.mk (fun (e : bad1 bb (s.w n) (x n) = false) => (show ∀ j, j < n + 1 → bad1 bb (s.w j) (x j) = false from fun j hj => by
        by_cases h : j = n
        · rw [h]; exact e
        · exact HG.out j (by omega)))
      generalize s.w n = y at hi HU HG1
      generalize x n = z at hx HU HG1
      cases bb
      · have HE := Aside0.mk (HU.out rfl)
        clear HG HG1 HU
        go_wp2
        go_ret
        exact ⟨by rw [HR.out, HE.out]; rfl, HB3.out⟩
      · by_cases hy : y = 0
        · have d1 : (y == 0) = true := by simp [hy]
          by_cases hz : z = 0
          · have d2 : (z != 0) = false := by simp [hz]
            have HE := Aside0.mk (HG1.out (by simp [bad1, hy, hz]))
            clear HG HG1 HU hy hz
            go_wp2
            go_round
            case rel => exact ⟨n + 1, by omega, by go_num, HE⟩
            case measure => simp [intOf]; omega
          · have d2 : (z != 0) = true := by simp [hz]
            have HE := Aside0.mk (HU.out (by simp [bad1, hy, hz]))
            clear HG HG1 HU hy hz
            go_wp2
            go_ret
            exact ⟨by rw [HR.out, HE.out]; rfl, HB3.out⟩
        · have d1 : (y == 0) = false := by simp [hy]
          have HE := Aside0.mk (HG1.out (by simp [bad1, hy]))
          clear HG HG1 HU hy
          go_wp2
          go_round
          case rel => exact ⟨n + 1, by omega, by go_num, HE⟩
          case measure => simp [intOf]; omega
    · obtain rfl : n = 3 := by omega
      have HR2 := Aside0.mk (show res = if any2 L s x 3 = true then 21 else 0 by
        rw [HR.out, if_neg]
        simp [any1, HG.out 0 (by omega), HG.out 1 (by omega), HG.out 2 (by omega)])
      clear HR HG
      go_wp2
      go_loop [48] (fun v48 => ∃ n : Nat, n ≤ 3 ∧ v48 = .int .i64 (n : Int) ∧ Aside0 (∀ j, j < n → bad2 (look L (s.w j)) (s.w j) (x j) = false)) (fun v48 => 3 - (intOf v48).toNat)
      case atStart => exact ⟨0, by omega, rfl, ⟨fun j hj => absurd hj (Nat.not_lt_zero j)⟩⟩
      case round =>
        obtain ⟨n, hn, rfl, HG⟩ := hrel
        by_cases hlt : n < 3
        · have hi := index3 s n hlt
          have hx := HN.out n hlt
          have HU := Aside0.mk (fun h => @any2_up L s x n h hlt)
          have HG1 := Aside0.mk (fun (e : bad2 (look L (s.w n)) (s.w n) (x n) = false) => (show ∀ j, j < n + 1 → bad2 (look L (s.w j)) (s.w j) (x j) = false from fun j hj => by
            by_cases h : j = n
            · rw [h]; exact e
            · exact HG.out j (by omega)))
          have hlk := run_look HM3.out (s.w n)
          generalize look L (s.w n) = lk at hlk HU HG1
          generalize s.w n = y at hi HU HG1 hlk
          generalize x n = z at hx HU HG1
          clear HG
          have fin0 : ∀ (e : bad2 lk y z = true), Aside0 (res = 21) := fun e => ⟨by rw [HR2.out, HU.out e]; rfl⟩
          replace fin0 := Aside0.mk fin0
          clear HU
          cases lk with
          | none =>
            simp only [Option.getD_none, Option.isSome_none] at hlk
            by_cases hy : y = 6
            · have d1 : (y == 6) = true := by simp [hy]
              by_cases hz : z = 0
              · have d2 : (z == 0) = true := by simp [hz]
                have HE := fin0.out (by simp [bad2, hy, hz])
                clear HG1 fin0 hy hz
                go_wp2
                go_ret
                exact ⟨by rw [HE.out]; rfl, HB3.out⟩
              · have d2 : (z == 0) = false := by simp [hz]
                have HE := Aside0.mk (HG1.out (by simp [bad2, hy, hz]))
                clear HG1 fin0 hy hz
                go_wp2
                go_round
                case rel => exact ⟨n + 1, by omega, by go_num, HE⟩
                case measure => simp [intOf]; omega
            · have d1 : (y == 6) = false := by simp [hy]
              have HE := Aside0.mk (HG1.out (by simp [bad2, hy]))
              clear HG1 fin0 hy
              go_wp2
              go_round
              case rel => exact ⟨n + 1, by omega, by go_num, HE⟩
              case measure => simp [intOf]; omega
          | some v =>
            simp only [Option.getD_some, Option.isSome_some] at hlk
            by_cases h0 : z < 0
            · have d1 : decide (z < 0) = true := decide_eq_true h0
              have HE := fin0.out (by simp [bad2, h0])
              clear HG1 fin0
              go_wp2
              go_ret
              exact ⟨by rw [HE.out]; rfl, HB3.out⟩
            · have d1 : decide (z < 0) = false := decide_eq_false h0
              by_cases h1 : v ≤ z
              · have d2 : decide (v ≤ z) = true := decide_eq_true h1
                have HE := fin0.out (by simp [bad2, h1])
                clear HG1 fin0
                go_wp2
                go_ret
                exact ⟨by rw [HE.out]; rfl, HB3.out⟩
              · have d2 : decide (v ≤ z) = false := decide_eq_false h1
                by_cases hy : y = 6
                · have d3 : (y == 6) = true := by simp [hy]
                  by_cases hz : z = 0
                  · have d4 : (z == 0) = true := by simp [hz]
                    have HE := fin0.out (by simp [bad2, hy, hz])
                    clear HG1 fin0 hy
                    go_wp2
                    go_ret
                    exact ⟨by rw [HE.out]; rfl, HB3.out⟩
                  · have d4 : (z == 0) = false := by simp [hz]
                    have HE := Aside0.mk (HG1.out (by simp [bad2, hy, hz, h0, h1]))
                    clear HG1 fin0 hy
                    go_wp2
                    go_round
                    case rel => exact ⟨n + 1, by omega, by go_num, HE⟩
                    case measure => simp [intOf]; omega
                · have d3 : (y == 6) = false := by simp [hy]
                  have HE := Aside0.mk (HG1.out (by simp [bad2, hy, h0, h1]))
                  clear HG1 fin0 hy
                  go_wp2
                  go_round
                  case rel => exact ⟨n + 1, by omega, by go_num, HE⟩
                  case measure => simp [intOf]; omega
        · obtain rfl : n = 3 := by omega
          have HE := Aside0.mk (show res = 0 by
            rw [HR2.out, if_neg]
            simp [any2, HG.out 0 (by omega), HG.out 1 (by omega), HG.out 2 (by omega)])
          clear HR2 HG
          go_wp2
          go_ret
          exact ⟨by rw [HE.out]; rfl, HB3.out⟩
def codeAt (xs : List (List S30)) (i : Nat) : List S30 := xs.getD i []
theorem at_code {w : World} {A : Option Addr} {n : Nat} {xs : List (List S30)} (h : Kd.C (Kd.slice 30 k30) w A n xs) (i : Nat) (h1 : i < n) : ∃ ad A0 c0, A = some ad ∧ w.cell? (ad.add i) = some (.slice A0 (codeAt xs i).length c0) ∧ (codeAt xs i).length ≤ c0 ∧ k30.C w A0 (codeAt xs i).length (codeAt xs i) := by
  obtain ⟨ad, c, e, _, hK, hc0⟩ := Kd.C_get h ([] : List S30) (i : Int) (by omega) (by omega)
  have hc : ∀ j u, c[j]? = some u → w.cell? (ad.add ((i : Int).toNat * 1 + j)) = some u := hc0
  obtain ⟨A0, c0, rfl, l0, g0⟩ := hK
  rw [Int.toNat_natCast] at l0 g0 hc
  exact ⟨ad, A0, c0, e, by have hq := hc 0 _ rfl; rw [Nat.mul_one, Nat.add_zero] at hq; exact hq, l0, g0⟩
def outB (n lo hi : Int) : Bool := decide (n < lo) || decide (n > hi)
def longs (l : List (List S30)) : Bool := l.any (fun c => decide (60 < c.length))
theorem out_any (n lo hi : Int) (w : World) : Calls Try.prog 30 #[.int .i64 n, .int .i64 lo, .int .i64 hi] w fun e w' => e = .returned (.bool (outB n lo hi)) ∧ w' = w := by
  unfold outB
  by_cases h : n < lo
  · have d1 : decide (n < lo) = true := decide_eq_true h
    rw [d1]
    go_enter Try.func30, Try.ntmps30
    go_wp2
    go_ret
    exact ⟨rfl, rfl⟩
  · have d1 : decide (n < lo) = false := decide_eq_false h
    rw [d1]
    by_cases h2 : n > hi
    · have d2 : decide (n > hi) = true := decide_eq_true h2
      rw [d2]
      go_enter Try.func30, Try.ntmps30
      go_wp2
      go_ret
      exact ⟨rfl, rfl⟩
    · have d2 : decide (n > hi) = false := decide_eq_false h2
      rw [d2]
      go_enter Try.func30, Try.ntmps30
      go_wp2
      go_ret
      exact ⟨rfl, rfl⟩
theorem out_is {n lo hi : Int} {b : Bool} (h : outB n lo hi = b) (w : World) : Calls Try.prog 30 #[.int .i64 n, .int .i64 lo, .int .i64 hi] w fun e w' => e = .returned (.bool b) ∧ w' = w := by
  rw [← h]; exact out_any n lo hi w
theorem long_any (A : Option Addr) (n c : Nat) (hn : n ≤ 9223372036854775807) (w : World) : Calls Try.prog 29 #[.slice A n c] w fun e w' => e = .returned (.bool (decide (60 < n))) ∧ w' = w := by
  by_cases h : 60 < n
  · have d1 : decide ((60 : Int) < (n : Int)) = true := decide_eq_true (by omega)
    rw [decide_eq_true h]
    go_enter Try.func29, Try.ntmps29
    go_wp2
    go_ret
    exact ⟨rfl, rfl⟩
  · have d1 : decide ((60 : Int) < (n : Int)) = false := decide_eq_false (by omega)
    rw [decide_eq_false h]
    go_enter Try.func29, Try.ntmps29
    go_wp2
    go_ret
    exact ⟨rfl, rfl⟩
theorem cap_any (n : Int) (w : World) : Calls Try.prog 33 #[.int .i64 n] w fun e w' => e = .returned (.bool (outB n 1 3)) ∧ w' = w := by
  go_enter Try.func33, Try.ntmps33
  go_wp2_with (go_at_call 30; refine (out_any _ _ _ _).mono ?_; rintro e w' ⟨rfl, rfl⟩)
  go_ret
  exact ⟨rfl, rfl⟩
theorem any_at {α : Type} (d : α) (p : α → Bool) (l : List α) : l.any p = true ↔ ∃ j, j < l.length ∧ p (l.getD j d) = true := by
  rw [List.any_eq_true]
  constructor
  · rintro ⟨x, hx, hp⟩
    obtain ⟨j, hj, rfl⟩ := List.mem_iff_getElem.1 hx
    exact ⟨j, hj, by rw [List.getD_eq_getElem?_getD, List.getElem?_eq_getElem hj]; exact hp⟩
  · rintro ⟨j, hj, hp⟩
    rw [List.getD_eq_getElem?_getD, List.getElem?_eq_getElem hj] at hp
    exact ⟨l[j], List.getElem_mem hj, hp⟩
theorem any_not {α : Type} (d : α) (p : α → Bool) (l : List α) (h : ∀ j, j < l.length → p (l.getD j d) = false) : l.any p = false := by
  rw [Bool.eq_false_iff, Ne, any_at d p l]
  rintro ⟨j, hj, hp⟩
  rw [h j hj] at hp
  cases hp
def IdxPost (b : Bool) (w : World) (e : Ending) (w' : World) : Prop := ∃ r : Int, (e = .returned (.int .i64 r) ∧ Aside0 (decide (0 ≤ r) = b)) ∧ w' = w
set_option maxHeartbeats 1000000 in
theorem index_long (A : Option Addr) (c : Nat) (l : List (List S30)) (w : World) (hr : Kd.C (Kd.slice 30 k30) w A l.length l) (hc : l.length ≤ c) :
    Calls Try.prog 43 #[.slice A l.length c, .func (.func 29) #[] #[]] w (IdxPost (longs l) w) := by
  have hm := Kd.C_max hr
  have HR := Aside0.mk hr
  clear hr
  go_enter Try.func43, Try.ntmps43
  go_wp2
  go_loop [8] (fun v8 => ∃ n : Nat, n ≤ l.length ∧ v8 = .int .i64 (n : Int) ∧ Aside0 (∀ j, j < n → decide (60 < (codeAt l j).length) = false)) (fun v8 => l.length - (intOf v8).toNat)
  case atStart => exact ⟨0, by omega, rfl, ⟨fun j hj => absurd hj (Nat.not_lt_zero j)⟩⟩
  case round =>
    obtain ⟨n, hn, rfl, HG⟩ := hrel
    by_cases hlt : n < l.length
    · obtain ⟨ad, A0, c0, e0, hcell, hl0, hi0⟩ := at_code HR.out n hlt
      cases e0
      have hm0 := Kd.C_max hi0
      have HY := Aside0.mk (fun (h : decide (60 < (codeAt l n).length) = true) => (show longs l = true from (any_at [] (fun c => decide (60 < c.length)) l).2 ⟨n, hlt, h⟩))
      have HN := Aside0.mk (fun (h : decide (60 < (codeAt l n).length) = false) => (show ∀ j, j < n + 1 → decide (60 < (codeAt l j).length) = false from fun j hj => by
        by_cases e : j = n
        · rw [e]; exact h
        · exact HG.out j (by omega)))
      clear hi0
      have hcall := Aside0.mk (fun A0 => long_any A0 (codeAt l n).length c0 hm0 w)
      generalize hbb : decide (60 < (codeAt l n).length) = bb at HY HN hcall
      generalize (codeAt l n).length = q at hcell hl0 hm0 hcall
      clear hbb HG
      cases bb
      · have HE := Aside0.mk (HN.out rfl)
        clear HY HN
        go_wp2_with (go_at_call 29; refine (hcall.out _).mono ?_; rintro e w' ⟨rfl, rfl⟩)
        go_round
        case rel => exact ⟨n + 1, by omega, by go_num, HE⟩
        case measure => simp [intOf]; omega
      · have HE := Aside0.mk (HY.out rfl)
        clear HY HN
        go_wp2_with (go_at_call 29; refine (hcall.out _).mono ?_; rintro e w' ⟨rfl, rfl⟩)
        go_ret
        exact ⟨_, ⟨rfl, ⟨by rw [HE.out]; exact decide_eq_true (by omega)⟩⟩, rfl⟩
    · obtain rfl : n = l.length := by omega
      have HE := Aside0.mk (show longs l = false from any_not [] _ l HG.out)
      clear HG
      go_wp2
      go_ret
      exact ⟨_, ⟨rfl, ⟨by rw [HE.out]; rfl⟩⟩, rfl⟩
theorem has_long (A : Option Addr) (c : Nat) (l : List (List S30)) (w : World) (hr : Kd.C (Kd.slice 30 k30) w A l.length l) (hc : l.length ≤ c) :
    Calls Try.prog 31 #[.slice A l.length c, .func (.func 29) #[] #[]] w fun e w' => e = .returned (.bool (longs l)) ∧ w' = w := by
  have HI := Aside0.mk (index_long A c l w hr hc)
  clear hr
  generalize longs l = bb at HI ⊢
  go_enter Try.func31, Try.ntmps31
  go_wp2_with (go_at_call 43; refine HI.out.mono ?_; rintro e w' ⟨r, ⟨rfl, HB⟩, rfl⟩)
  go_ret
  exact ⟨by rw [← HB.out]; rfl, rfl⟩
set_option maxHeartbeats 1000000 in
theorem index_cap (A : Option Addr) (c : Nat) (l : List Int) (w : World) (hr : Kd.C (Kd.int .i64) w A l.length l) (hc : l.length ≤ c) :
    Calls Try.prog 44 #[.slice A l.length c, .func (.func 33) #[] #[]] w (IdxPost (l.any (fun n => outB n 1 3)) w) := by
  have hm := Kd.C_max hr
  have HR := Aside0.mk hr
  clear hr
  go_enter Try.func44, Try.ntmps44
  go_wp2
  go_loop [8] (fun v8 => ∃ n : Nat, n ≤ l.length ∧ v8 = .int .i64 (n : Int) ∧ Aside0 (∀ j, j < n → outB (l.getD j 0) 1 3 = false)) (fun v8 => l.length - (intOf v8).toNat)
  case atStart => exact ⟨0, by omega, rfl, ⟨fun j hj => absurd hj (Nat.not_lt_zero j)⟩⟩
  case round =>
    obtain ⟨n, hn, rfl, HG⟩ := hrel
    by_cases hlt : n < l.length
    · obtain ⟨ad, e0, hcell⟩ := Kd.at_int HR.out (n : Int) (by omega) (by omega)
      cases e0
      rw [Int.toNat_natCast, show rd l (n : Int) = l.getD n 0 by simp [rd]] at hcell
      have HY := Aside0.mk (fun (h : outB (l.getD n 0) 1 3 = true) => (show l.any (fun n => outB n 1 3) = true from (any_at 0 (fun n => outB n 1 3) l).2 ⟨n, hlt, h⟩))
      have HN := Aside0.mk (fun (h : outB (l.getD n 0) 1 3 = false) => (show ∀ j, j < n + 1 → outB (l.getD j 0) 1 3 = false from fun j hj => by
        by_cases e : j = n
        · rw [e]; exact h
        · exact HG.out j (by omega)))
      have hcall := Aside0.mk (cap_any (l.getD n 0) w)
      generalize l.getD n 0 = x at hcell HY HN hcall
      generalize hbb : outB x 1 3 = bb at HY HN hcall
      clear hbb HG
      cases bb
      · have HE := Aside0.mk (HN.out rfl)
        clear HY HN
        go_wp2_with (go_at_call 33; refine hcall.out.mono ?_; rintro e w' ⟨rfl, rfl⟩)
        go_round
        case rel => exact ⟨n + 1, by omega, by go_num, HE⟩
        case measure => simp [intOf]; omega
      · have HE := Aside0.mk (HY.out rfl)
        clear HY HN
        go_wp2_with (go_at_call 33; refine hcall.out.mono ?_; rintro e w' ⟨rfl, rfl⟩)
        go_ret
        exact ⟨_, ⟨rfl, ⟨by rw [HE.out]; exact decide_eq_true (by omega)⟩⟩, rfl⟩
    · obtain rfl : n = l.length := by omega
      have HE := Aside0.mk (show l.any (fun n => outB n 1 3) = false from any_not 0 _ l HG.out)
      clear HG
      go_wp2
      go_ret
      exact ⟨_, ⟨rfl, ⟨by rw [HE.out]; rfl⟩⟩, rfl⟩
theorem has_cap (A : Option Addr) (c : Nat) (l : List Int) (w : World) (hr : Kd.C (Kd.int .i64) w A l.length l) (hc : l.length ≤ c) :
    Calls Try.prog 32 #[.slice A l.length c, .func (.func 33) #[] #[]] w fun e w' => e = .returned (.bool (l.any (fun n => outB n 1 3))) ∧ w' = w := by
  have HI := Aside0.mk (index_cap A c l w hr hc)
  clear hr
  generalize l.any (fun n => outB n 1 3) = bb at HI ⊢
  go_enter Try.func32, Try.ntmps32
  go_wp2_with (go_at_call 44; refine HI.out.mono ?_; rintro e w' ⟨r, ⟨rfl, HB⟩, rfl⟩)
  go_ret
  exact ⟨by rw [← HB.out]; rfl, rfl⟩
def insRes (L : List (Int × Int)) (i : S30) : Int := insBad L (decide (i.f0 < 28)) (shpAt i.f0) (xyz i.f1 i.f2 i.f3)
def codeRes (L : List (Int × Int)) : List S30 → Int
  | [] => 0
  | i :: c => if insRes L i = 0 then codeRes L c else insRes L i
def allRes (L : Int → List (Int × Int)) : List (List S30) → Int
  | [] => 0
  | c :: t => if codeRes (L (c.length : Int)) c = 0 then allRes L t else codeRes (L (c.length : Int)) c
def bytesOK (th : List (List S30)) : Bool := th.all fun c => c.all fun i => decide (0 ≤ i.f0) && decide (i.f0 ≤ 255)
def far (V A L : Int) (ch : List Int) (G O : Int) (th : List (List S30)) : Bool :=
  outB V 0 8 || (outB A 0 4 || (outB L 0 4 || (outB G 0 4 || (outB O 0 4 || (outB (ch.length : Int) 0 4 || (outB (th.length : Int) 1 6 || longs th))))))
def soundRes (V A L : Int) (ch : List Int) (G O : Int) (th : List (List S30)) : Int :=
  if far V A L ch G O th = true then 3 else if ch.any (fun n => outB n 1 3) = true then 21 else allRes (lims V A L ch.length G O th.length) th
def ir_Sound.f (V A L : Int) (ch : List Int) (G O : Int) (th : List (List S30)) : Option Int := if bytesOK th = true then some (soundRes V A L ch G O th) else none
theorem bytes_at {th : List (List S30)} (h : bytesOK th = true) (n m : Nat) (hn : n < th.length) (hm : m < (codeAt th n).length) : 0 ≤ (rd_T30 (codeAt th n) (m : Int)).f0 ∧ (rd_T30 (codeAt th n) (m : Int)).f0 ≤ 255 := by
  have h1 := List.all_eq_true.1 h (codeAt th n) (by unfold codeAt; rw [List.getD_eq_getElem?_getD, List.getElem?_eq_getElem hn]; exact List.getElem_mem hn)
  have h2 := List.all_eq_true.1 h1 (rd_T30 (codeAt th n) (m : Int)) (by
    show (codeAt th n).getD (m : Int).toNat z30 ∈ _
    rw [Int.toNat_natCast, List.getD_eq_getElem?_getD, List.getElem?_eq_getElem hm]; exact List.getElem_mem hm)
  simpa using h2
theorem code_drop {th : List (List S30)} {n : Nat} (hn : n < th.length) : th.drop n = codeAt th n :: th.drop (n + 1) := by
  rw [List.drop_eq_getElem_cons hn]; unfold codeAt; rw [List.getD_eq_getElem?_getD, List.getElem?_eq_getElem hn]; rfl
theorem ins_drop {c : List S30} {m : Nat} (hm : m < c.length) : c.drop m = rd_T30 c (m : Int) :: c.drop (m + 1) := by
  rw [List.drop_eq_getElem_cons hm]
  show _ = c.getD (m : Int).toNat z30 :: _
  rw [Int.toNat_natCast, List.getD_eq_getElem?_getD, List.getElem?_eq_getElem hm]; rfl
theorem long_at {th : List (List S30)} (h : longs th = false) (n : Nat) (hn : n < th.length) : (codeAt th n).length ≤ 60 := by
  apply Nat.le_of_not_lt
  intro h2
  have : longs th = true := (any_at [] (fun c => decide (60 < c.length)) th).2 ⟨n, hn, decide_eq_true h2⟩
  rw [h] at this
  cases this
set_option maxHeartbeats 16000000 in
set_option maxRecDepth 100000 in
theorem sound_far (V A L : Int) (AC : Option Addr) (cc : Nat) (ch : List Int) (G O : Int) (AT : Option Addr) (tc : Nat) (th : List (List S30)) (w : World)
    (hrT : Kd.C (Kd.slice 30 k30) w AT th.length th) (hcT : th.length ≤ tc) (hfar : far V A L ch G O th = true) :
    Calls Try.prog 12 #[.agg #[.int .i64 V, .int .i64 A, .int .i64 L, .slice AC ch.length cc, .int .i64 G, .int .i64 O, .slice AT th.length tc]] w fun e w' => e = .returned (.int .u16 3) ∧ Below w.heap.size w w' := by
  have HL := Aside0.mk (fun W (hb : Below w.heap.size w W) => has_long AT tc th W (Kd.C_below hrT hb) hcT)
  clear hrT hcT
  unfold far at hfar
  generalize longs th = lb at hfar HL
  generalize ch.length = cl at hfar ⊢
  generalize th.length = tl at hfar HL ⊢
  cases h1 : outB V 0 8 with
  | true =>
    clear hfar
    go_enter Try.func12, Try.ntmps12
    go_wp2_with (go_at_call 30; (first | (with_reducible refine (out_is h1 _).mono ?_) | (with_reducible refine (out_is h2 _).mono ?_) | (with_reducible refine (out_is h3 _).mono ?_) | (with_reducible refine (out_is h4 _).mono ?_) | (with_reducible refine (out_is h5 _).mono ?_) | (with_reducible refine (out_is h6 _).mono ?_) | (with_reducible refine (out_is h7 _).mono ?_)); rintro e w' ⟨rfl, rfl⟩)
    go_ret
    exact ⟨rfl, below_alloc (Below.refl _ _) _⟩
  | false =>
    cases h2 : outB A 0 4 with
    | true =>
      clear hfar
      go_enter Try.func12, Try.ntmps12
      go_wp2_with (go_at_call 30; (first | (with_reducible refine (out_is h1 _).mono ?_) | (with_reducible refine (out_is h2 _).mono ?_) | (with_reducible refine (out_is h3 _).mono ?_) | (with_reducible refine (out_is h4 _).mono ?_) | (with_reducible refine (out_is h5 _).mono ?_) | (with_reducible refine (out_is h6 _).mono ?_) | (with_reducible refine (out_is h7 _).mono ?_)); rintro e w' ⟨rfl, rfl⟩)
      go_ret
      exact ⟨rfl, below_alloc (Below.refl _ _) _⟩
    | false =>
      cases h3 : outB L 0 4 with
      | true =>
        clear hfar
        go_enter Try.func12, Try.ntmps12
        go_wp2_with (go_at_call 30; (first | (with_reducible refine (out_is h1 _).mono ?_) | (with_reducible refine (out_is h2 _).mono ?_) | (with_reducible refine (out_is h3 _).mono ?_) | (with_reducible refine (out_is h4 _).mono ?_) | (with_reducible refine (out_is h5 _).mono ?_) | (with_reducible refine (out_is h6 _).mono ?_) | (with_reducible refine (out_is h7 _).mono ?_)); rintro e w' ⟨rfl, rfl⟩)
        go_ret
        exact ⟨rfl, below_alloc (Below.refl _ _) _⟩
      | false =>
        cases h4 : outB G 0 4 with
        | true =>
          clear hfar
          go_enter Try.func12, Try.ntmps12
          go_wp2_with (go_at_call 30; (first | (with_reducible refine (out_is h1 _).mono ?_) | (with_reducible refine (out_is h2 _).mono ?_) | (with_reducible refine (out_is h3 _).mono ?_) | (with_reducible refine (out_is h4 _).mono ?_) | (with_reducible refine (out_is h5 _).mono ?_) | (with_reducible refine (out_is h6 _).mono ?_) | (with_reducible refine (out_is h7 _).mono ?_)); rintro e w' ⟨rfl, rfl⟩)
          go_ret
          exact ⟨rfl, below_alloc (Below.refl _ _) _⟩
        | false =>
          cases h5 : outB O 0 4 with
          | true =>
            clear hfar
            go_enter Try.func12, Try.ntmps12
            go_wp2_with (go_at_call 30; (first | (with_reducible refine (out_is h1 _).mono ?_) | (with_reducible refine (out_is h2 _).mono ?_) | (with_reducible refine (out_is h3 _).mono ?_) | (with_reducible refine (out_is h4 _).mono ?_) | (with_reducible refine (out_is h5 _).mono ?_) | (with_reducible refine (out_is h6 _).mono ?_) | (with_reducible refine (out_is h7 _).mono ?_)); rintro e w' ⟨rfl, rfl⟩)
            go_ret
            exact ⟨rfl, below_alloc (Below.refl _ _) _⟩
          | false =>
            cases h6 : outB (cl : Int) 0 4 with
            | true =>
              clear hfar
              go_enter Try.func12, Try.ntmps12
              go_wp2_with (go_at_call 30; (first | (with_reducible refine (out_is h1 _).mono ?_) | (with_reducible refine (out_is h2 _).mono ?_) | (with_reducible refine (out_is h3 _).mono ?_) | (with_reducible refine (out_is h4 _).mono ?_) | (with_reducible refine (out_is h5 _).mono ?_) | (with_reducible refine (out_is h6 _).mono ?_) | (with_reducible refine (out_is h7 _).mono ?_)); rintro e w' ⟨rfl, rfl⟩)
              go_ret
              exact ⟨rfl, below_alloc (Below.refl _ _) _⟩
            | false =>
              cases h7 : outB (tl : Int) 1 6 with
              | true =>
                clear hfar
                go_enter Try.func12, Try.ntmps12
                go_wp2_with (go_at_call 30; (first | (with_reducible refine (out_is h1 _).mono ?_) | (with_reducible refine (out_is h2 _).mono ?_) | (with_reducible refine (out_is h3 _).mono ?_) | (with_reducible refine (out_is h4 _).mono ?_) | (with_reducible refine (out_is h5 _).mono ?_) | (with_reducible refine (out_is h6 _).mono ?_) | (with_reducible refine (out_is h7 _).mono ?_)); rintro e w' ⟨rfl, rfl⟩)
                go_ret
                exact ⟨rfl, below_alloc (Below.refl _ _) _⟩
              | false =>
                simp only [h1, h2, h3, h4, h5, h6, h7, Bool.false_or] at hfar
                subst hfar
                go_enter Try.func12, Try.ntmps12
                go_wp2_with (first | (go_at_call 30; (first | (with_reducible refine (out_is h1 _).mono ?_) | (with_reducible refine (out_is h2 _).mono ?_) | (with_reducible refine (out_is h3 _).mono ?_) | (with_reducible refine (out_is h4 _).mono ?_) | (with_reducible refine (out_is h5 _).mono ?_) | (with_reducible refine (out_is h6 _).mono ?_) | (with_reducible refine (out_is h7 _).mono ?_)); rintro e w' ⟨rfl, rfl⟩) | (go_at_call 31; refine (HL.out _ (below_alloc (Below.refl _ _) _)).mono ?_; rintro e w' ⟨rfl, rfl⟩))
                go_ret
                exact ⟨rfl, below_alloc (Below.refl _ _) _⟩
theorem far_no {V A L : Int} {ch : List Int} {G O : Int} {th : List (List S30)} (h : far V A L ch G O th = false) :
    outB V 0 8 = false ∧ outB A 0 4 = false ∧ outB L 0 4 = false ∧ outB G 0 4 = false ∧ outB O 0 4 = false ∧ outB (ch.length : Int) 0 4 = false ∧ outB (th.length : Int) 1 6 = false ∧ longs th = false := by
  unfold far at h
  simp only [Bool.or_eq_false_iff] at h
  exact h
set_option maxHeartbeats 16000000 in
set_option maxRecDepth 100000 in
theorem sound_cap (V A L : Int) (AC : Option Addr) (cc : Nat) (ch : List Int) (G O : Int) (AT : Option Addr) (tc : Nat) (th : List (List S30)) (w : World)
    (hrC : Kd.C (Kd.int .i64) w AC ch.length ch) (hcC : ch.length ≤ cc) (hrT : Kd.C (Kd.slice 30 k30) w AT th.length th) (hcT : th.length ≤ tc) (hfar : far V A L ch G O th = false) (hcap : ch.any (fun n => outB n 1 3) = true) :
    Calls Try.prog 12 #[.agg #[.int .i64 V, .int .i64 A, .int .i64 L, .slice AC ch.length cc, .int .i64 G, .int .i64 O, .slice AT th.length tc]] w fun e w' => e = .returned (.int .u16 21) ∧ Below w.heap.size w w' := by
  obtain ⟨h1, h2, h3, h4, h5, h6, h7, h8⟩ := far_no hfar
  have HL := Aside0.mk (fun W (hb : Below w.heap.size w W) => has_long AT tc th W (Kd.C_below hrT hb) hcT)
  have HC := Aside0.mk (fun W (hb : Below w.heap.size w W) => has_cap AC cc ch W (Kd.C_below hrC hb) hcC)
  rw [h8] at HL
  rw [hcap] at HC
  clear hrT hcT hrC hcC hfar hcap h8
  generalize ch.length = cl at HC h6 ⊢
  generalize th.length = tl at HL h7 ⊢
  go_enter Try.func12, Try.ntmps12
  go_wp2_with (first | (go_at_call 30; (first | (with_reducible refine (out_is h1 _).mono ?_) | (with_reducible refine (out_is h2 _).mono ?_) | (with_reducible refine (out_is h3 _).mono ?_) | (with_reducible refine (out_is h4 _).mono ?_) | (with_reducible refine (out_is h5 _).mono ?_) | (with_reducible refine (out_is h6 _).mono ?_) | (with_reducible refine (out_is h7 _).mono ?_)); rintro e w' ⟨rfl, rfl⟩) | (go_at_call 31; refine (HL.out _ (below_alloc (Below.refl _ _) _)).mono ?_; rintro e w' ⟨rfl, rfl⟩) | (go_at_call 32; refine (HC.out _ (below_alloc (Below.refl _ _) _)).mono ?_; rintro e w' ⟨rfl, rfl⟩))
  go_ret
  exact ⟨rfl, below_alloc (Below.refl _ _) _⟩
set_option maxHeartbeats 16000000 in
set_option maxRecDepth 100000 in
theorem sound_all (V A L : Int) (AC : Option Addr) (cc : Nat) (ch : List Int) (G O : Int) (AT : Option Addr) (tc : Nat) (th : List (List S30)) (w : World)
    (hrC : Kd.C (Kd.int .i64) w AC ch.length ch) (hcC : ch.length ≤ cc) (hrT : Kd.C (Kd.slice 30 k30) w AT th.length th) (hcT : th.length ≤ tc) (hfar : far V A L ch G O th = false) (hcap : ch.any (fun n => outB n 1 3) = false) (hby : bytesOK th = true) :
    Calls Try.prog 12 #[.agg #[.int .i64 V, .int .i64 A, .int .i64 L, .slice AC ch.length cc, .int .i64 G, .int .i64 O, .slice AT th.length tc]] w fun e w' => e = .returned (.int .u16 (allRes (lims V A L ch.length G O th.length) th)) ∧ Below w.heap.size w w' := by
  have HQ := Aside0.mk (show allRes (lims V A L ch.length G O th.length) th = allRes (lims V A L ch.length G O th.length) (th.drop 0) from rfl)
  generalize hLF : lims V A L ch.length G O th.length = LF at HQ ⊢
  have HLF := Aside0.mk hLF
  clear hLF
  generalize hres : allRes LF th = res at HQ ⊢
  clear hres
  obtain ⟨h1, h2, h3, h4, h5, h6, h7, h8⟩ := far_no hfar
  have HL := Aside0.mk (fun W (hb : Below w.heap.size w W) => has_long AT tc th W (Kd.C_below hrT hb) hcT)
  have HC := Aside0.mk (fun W (hb : Below w.heap.size w W) => has_cap AC cc ch W (Kd.C_below hrC hb) hcC)
  rw [h8] at HL
  rw [hcap] at HC
  have H8 := Aside0.mk h8
  have HY := Aside0.mk hby
  have HT := Aside0.mk hrT
  have hmT := Kd.C_max hrT
  clear hrT hrC hcC hfar hcap h8 hby
  go_enter Try.func12, Try.ntmps12
  go_wp2_with (first | (go_at_call 30; (first | (with_reducible refine (out_is h1 _).mono ?_) | (with_reducible refine (out_is h2 _).mono ?_) | (with_reducible refine (out_is h3 _).mono ?_) | (with_reducible refine (out_is h4 _).mono ?_) | (with_reducible refine (out_is h5 _).mono ?_) | (with_reducible refine (out_is h6 _).mono ?_) | (with_reducible refine (out_is h7 _).mono ?_)); rintro e w' ⟨rfl, rfl⟩) | (go_at_call 31; refine (HL.out _ (below_alloc (Below.refl _ _) _)).mono ?_; rintro e w' ⟨rfl, rfl⟩) | (go_at_call 32; refine (HC.out _ (below_alloc (Below.refl _ _) _)).mono ?_; rintro e w' ⟨rfl, rfl⟩))
  clear h1 h2 h3 h4 h5 h6 h7 HL HC
  have HX := Aside0.mk (blk_new w (.cells #[.int .i64 V, .int .i64 A, .int .i64 L, .slice AC ch.length cc, .int .i64 G, .int .i64 O, .slice AT th.length tc] 26))
  have HB := Aside0.mk (below_alloc (Below.refl w.heap.size w) (.cells #[.int .i64 V, .int .i64 A, .int .i64 L, .slice AC ch.length cc, .int .i64 G, .int .i64 O, .slice AT th.length tc] 26))
  generalize w.alloc _ = W1 at HX HB ⊢
  go_loopw [45] (fun v45 wr => ∃ n : Nat, n ≤ th.length ∧ v45 = .int .i64 (n : Int) ∧ Aside0 (res = allRes LF (th.drop n)) ∧ Aside0 (wr.heap[w.heap.size]? = some (.cells #[.int .i64 V, .int .i64 A, .int .i64 L, .slice AC ch.length cc, .int .i64 G, .int .i64 O, .slice AT th.length tc] 26 (0, 0))) ∧ Aside0 (Below w.heap.size w wr)) (fun v45 _ => th.length - (intOf v45).toNat)
  case atStart => exact ⟨0, by omega, rfl, HQ, HX, HB⟩
  case round =>
    clear HQ HX HB
    obtain ⟨n, hn, rfl, HQ, HX, HB⟩ := hrel
    by_cases hlt : n < th.length
    · obtain ⟨ad, A0, c0, e0, hcell0, hl0, hi0⟩ := at_code HT.out n hlt
      have hq60 := long_at H8.out n hlt
      have HD := Aside0.mk (code_drop hlt)
      have HYn := Aside0.mk (fun m (hm : m < (codeAt th n).length) => bytes_at HY.out n m hlt hm)
      cases e0
      have hcell := pw_cell_below HB.out hcell0
      have HI := Aside0.mk hi0
      clear hcell0 hi0
      generalize codeAt th n = code at hcell hl0 HI hq60 HD HYn
      have HQ1 := Aside0.mk (show res = if codeRes (LF (code.length : Int)) (code.drop 0) = 0 then allRes LF (th.drop (n + 1)) else codeRes (LF (code.length : Int)) (code.drop 0) by rw [HQ.out, HD.out]; rfl)
      clear HQ HD
      have hd0 : wr.cell? ⟨w.heap.size, 0, none⟩ = some (.int .i64 V) := (blk_cell HX.out 0).trans rfl
      have hd1 : wr.cell? ⟨w.heap.size, 1, none⟩ = some (.int .i64 A) := (blk_cell HX.out 1).trans rfl
      have hd2 : wr.cell? ⟨w.heap.size, 2, none⟩ = some (.int .i64 L) := (blk_cell HX.out 2).trans rfl
      have hd3 : wr.cell? ⟨w.heap.size, 3, none⟩ = some (.slice AC ch.length cc) := (blk_cell HX.out 3).trans rfl
      have hd4 : wr.cell? ⟨w.heap.size, 4, none⟩ = some (.int .i64 G) := (blk_cell HX.out 4).trans rfl
      have hd5 : wr.cell? ⟨w.heap.size, 5, none⟩ = some (.int .i64 O) := (blk_cell HX.out 5).trans rfl
      have hd6 : wr.cell? ⟨w.heap.size, 6, none⟩ = some (.slice (some ad) th.length tc) := (blk_cell HX.out 6).trans rfl
      go_wp2_with (go_at_call 34; refine (limits_any V A L AC ch.length cc G O (some ad) th.length tc (code.length : Int) ⟨by omega, by omega⟩ _).mono ?_; rintro e w2 ⟨b, rfl, hM, hb⟩; have HM := Aside0.mk hM; have HB2 := Aside0.mk hb; clear hM hb hd0 hd1 hd2 hd3 hd4 hd5 hd6 hcell)
      have HX2 := Aside0.mk (blk_below HX.out HB2.out)
      have HBB := Aside0.mk (below_step HB.out HB2.out)
      rw [show lims V A L ch.length G O th.length (code.length : Int) = LF (code.length : Int) by rw [← HLF.out]] at HM
      clear HX HB HB2
      generalize hLQ : LF (code.length : Int) = LQ at HM HQ1
      clear hLQ
      go_loopw [55] (fun v55 wr => ∃ m : Nat, m ≤ code.length ∧ v55 = .int .i64 (m : Int) ∧ Aside0 (res = if codeRes LQ (code.drop m) = 0 then allRes LF (th.drop (n + 1)) else codeRes LQ (code.drop m)) ∧ Aside0 (MapIs wr b LQ) ∧ Aside0 (wr.heap[w.heap.size]? = some (.cells #[.int .i64 V, .int .i64 A, .int .i64 L, .slice AC ch.length cc, .int .i64 G, .int .i64 O, .slice (some ad) th.length tc] 26 (0, 0))) ∧ Aside0 (Below w.heap.size w wr)) (fun v55 _ => code.length - (intOf v55).toNat)
      case atStart => exact ⟨0, by omega, rfl, HQ1, HM, HX2, HBB⟩
      case round =>
        clear HQ1 HM HX2 HBB
        obtain ⟨m, hm, rfl, HQ1, HM, HX2, HBB⟩ := hrel
        by_cases hlm : m < code.length
        · obtain ⟨ai, e1, hc0, hc1, hc2, hc3⟩ := at_T30 (Kd.C_below HI.out HBB.out) (m : Int) (by omega) (by omega)
          cases e1
          rw [Int.toNat_natCast] at hc0 hc1 hc2 hc3
          have hby := HYn.out m hlm
          have HQ2 := Aside0.mk (show res = if (if insRes LQ (rd_T30 code (m : Int)) = 0 then codeRes LQ (code.drop (m + 1)) else insRes LQ (rd_T30 code (m : Int))) = 0 then allRes LF (th.drop (n + 1)) else (if insRes LQ (rd_T30 code (m : Int)) = 0 then codeRes LQ (code.drop (m + 1)) else insRes LQ (rd_T30 code (m : Int))) by rw [HQ1.out, ins_drop hlm]; rfl)
          clear HQ1
          have HIN := Aside0.mk (fun W (hM : MapIs W b LQ) => ins_any (rd_T30 code (m : Int)).f0 (rd_T30 code (m : Int)).f1 (rd_T30 code (m : Int)).f2 (rd_T30 code (m : Int)).f3 hby.1 hby.2 b LQ W hM)
          change Aside0 (∀ W, MapIs W b LQ → Calls Try.prog 35 _ W fun e w' => e = .returned (.int .u16 (insRes LQ (rd_T30 code (m : Int)))) ∧ Below W.heap.size W w') at HIN
          generalize insRes LQ (rd_T30 code (m : Int)) = q at HQ2 HIN
          clear hby
          by_cases hq0 : q = 0
          · subst hq0
            rw [if_pos rfl] at HQ2
            go_wp2_with (go_at_call 35; refine (HIN.out _ (HM.out.below (below_alloc (Below.refl _ _) _))).mono ?_; rintro e w3 ⟨rfl, hb⟩; have HB3 := Aside0.mk (below_step (below_alloc (Below.refl _ _) _) hb); clear hb)
            have HM3 := Aside0.mk (HM.out.below HB3.out)
            have HX3 := Aside0.mk (blk_below HX2.out HB3.out)
            have HBB3 := Aside0.mk (below_step HBB.out HB3.out)
            clear HM HX2 HBB HB3
            go_roundw
            case rel => exact ⟨m + 1, by omega, by go_num, HQ2, HM3, HX3, HBB3⟩
            case measure => simp [intOf]; omega
          · have HE := Aside0.mk (show res = q by rw [HQ2.out, if_neg hq0, if_neg hq0])
            clear HQ2
            go_wp2_with (go_at_call 35; refine (HIN.out _ (HM.out.below (below_alloc (Below.refl _ _) _))).mono ?_; rintro e w3 ⟨rfl, hb⟩; have HB3 := Aside0.mk (below_step (below_alloc (Below.refl _ _) _) hb); clear hb)
            go_ret
            exact ⟨by rw [HE.out]; rfl, below_step HBB.out HB3.out⟩
        · obtain rfl : m = code.length := by omega
          have HQ2 := Aside0.mk (show res = allRes LF (th.drop (n + 1)) by rw [HQ1.out, List.drop_eq_nil_of_le (Nat.le_refl _)]; rfl)
          clear HQ1
          go_wp2
          go_roundw
          case rel => exact ⟨n + 1, by omega, by go_num, HQ2, HX2, HBB⟩
          case measure => simp [intOf]; omega
    · obtain rfl : n = th.length := by omega
      have HE := Aside0.mk (show res = 0 by rw [HQ.out, List.drop_eq_nil_of_le (Nat.le_refl _)]; rfl)
      go_wp2
      go_ret
      exact ⟨by rw [HE.out]; rfl, HB.out⟩
theorem ir_Sound.calls (a0_0 a0_1 a0_2 : Int) (A0_3 : Option Addr) (c0_3 : Nat) (l0_3 : List Int) (a0_4 a0_5 : Int) (A0_6 : Option Addr) (c0_6 : Nat) (l0_6 : List (List S30)) (r : Int) (w : World)
    (hr0_3 : Kd.C (Kd.int .i64) w A0_3 l0_3.length l0_3) (hc0_3 : l0_3.length ≤ c0_3) (hr0_6 : Kd.C (Kd.slice 30 k30) w A0_6 l0_6.length l0_6) (hc0_6 : l0_6.length ≤ c0_6)
    (h : ir_Sound.f a0_0 a0_1 a0_2 l0_3 a0_4 a0_5 l0_6 = some r) :
    Calls Try.prog 12 #[.agg #[.int .i64 a0_0, .int .i64 a0_1, .int .i64 a0_2, .slice A0_3 l0_3.length c0_3, .int .i64 a0_4, .int .i64 a0_5, .slice A0_6 l0_6.length c0_6]] w fun e w' => e = .returned (.int .u16 r) ∧ Below w.heap.size w w' := by
  unfold ir_Sound.f at h
  by_cases hby : bytesOK l0_6 = true
  · rw [if_pos hby] at h
    obtain rfl := Option.some.inj h
    clear h
    unfold soundRes
    cases hfar : far a0_0 a0_1 a0_2 l0_3 a0_4 a0_5 l0_6 with
    | true => rw [if_pos rfl]; exact sound_far a0_0 a0_1 a0_2 A0_3 c0_3 l0_3 a0_4 a0_5 A0_6 c0_6 l0_6 w hr0_6 hc0_6 hfar
    | false =>
      rw [if_neg (by decide)]
      cases hcap : l0_3.any (fun n => outB n 1 3) with
      | true => rw [if_pos rfl]; exact sound_cap a0_0 a0_1 a0_2 A0_3 c0_3 l0_3 a0_4 a0_5 A0_6 c0_6 l0_6 w hr0_3 hc0_3 hr0_6 hc0_6 hfar hcap
      | false => rw [if_neg (by decide)]; exact sound_all a0_0 a0_1 a0_2 A0_3 c0_3 l0_3 a0_4 a0_5 A0_6 c0_6 l0_6 w hr0_3 hc0_3 hr0_6 hc0_6 hfar hcap hby
  · rw [if_neg hby] at h; cases h

end Go.Proofs.Ytkkhjfkgfmodnaa.P
