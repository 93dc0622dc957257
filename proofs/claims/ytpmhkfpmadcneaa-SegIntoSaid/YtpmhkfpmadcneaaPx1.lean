-- written by this project's xprint.py (a turn of the kit's printer; its own texts among them)
import Derived.Test.YtpmhkfpmadcneaaPx0
namespace Go.Proofs.Ytpmhkfpmadcneaa.P
open Go.RowKit Go.Proofs.YtpmhkfpmadcneaaW.PrintWords Go.Proofs.YtpmhkfpmadcneaaW.PrintLast Go.Proofs.YtpmhkfpmadcneaaW.PrintMore
attribute [local go_sem] max2_int min2_int max_two min_two max_three min_three max_four min_four   -- for this text's walks alone
set_option linter.unusedVariables false
set_option linter.unusedSimpArgs false

/-! ### ir_shapes: function 25 -/
def ZSH : Array Value := (List.replicate 28 [Value.string { data := #[] }, Value.int IntKind.u8 0, Value.int IntKind.u8 0, Value.int IntKind.u8 0, Value.bool false, Value.bool false, Value.bool false]).flatten.toArray
theorem zvSH (w : World) : Sem.run Try.prog (zeroValue 52) w = .ok (.agg ZSH) w := by kernel_rfl

theorem math_any (s : ByteArray) (w : World) : Calls Try.prog 26 #[.string s] w fun e w' => e = .returned (.agg #[.string s, .int .u8 2, .int .u8 3, .int .u8 3, .bool true, .bool false, .bool false]) ∧ Below w.heap.size w w' := by
  go_enter Try.func26, Try.ntmps26
  go_wp2
  exact bodyPost_ret (v := .agg #[.string s, .int .u8 2, .int .u8 3, .int .u8 3, .bool true, .bool false, .bool false]) (by simp [results, Try.results26, go_sem]) rfl ⟨rfl, (Below.refl _ _).alloc (Nat.le_refl _) _⟩
theorem of_any (s : ByteArray) (k : Int) (a b : Bool) (w : World) : Calls Try.prog 27 #[.string s, .int .u8 k, .bool a, .bool b] w fun e w' => e = .returned (.agg #[.string s, .int .u8 k, .int .u8 0, .int .u8 0, .bool false, .bool a, .bool b]) ∧ Below w.heap.size w w' := by
  go_enter Try.func27, Try.ntmps27
  go_wp2
  exact bodyPost_ret (v := .agg #[.string s, .int .u8 k, .int .u8 0, .int .u8 0, .bool false, .bool a, .bool b]) (by simp [results, Try.results27, go_sem]) rfl ⟨rfl, (Below.refl _ _).alloc (Nat.le_refl _) _⟩

structure Shp where
  nm : List UInt8
  a : Int
  b : Int
  c : Int
  p : Bool
  q : Bool
  r : Bool
def Shp.cells (s : Shp) : List Value := [.string ⟨s.nm.toArray⟩, .int .u8 s.a, .int .u8 s.b, .int .u8 s.c, .bool s.p, .bool s.q, .bool s.r]
def Shp.zero : Shp := ⟨[], 0, 0, 0, false, false, false⟩
/-- The chapter's table. -/
def shpTab : List Shp := [
  ⟨[110, 111, 112], 0, 0, 0, true, false, false⟩,
  ⟨[99, 111, 110, 115, 116], 2, 1, 0, true, false, false⟩,
  ⟨[109, 111, 118, 101], 2, 3, 0, true, false, false⟩,
  ⟨[97, 100, 100], 2, 3, 3, true, false, false⟩,
  ⟨[115, 117, 98], 2, 3, 3, true, false, false⟩,
  ⟨[109, 117, 108], 2, 3, 3, true, false, false⟩,
  ⟨[108, 101, 115, 115], 2, 3, 3, true, false, false⟩,
  ⟨[108, 111, 97, 100], 2, 4, 0, true, false, false⟩,
  ⟨[115, 116, 111, 114, 101], 4, 3, 0, true, false, false⟩,
  ⟨[112, 114, 105, 110, 116], 3, 0, 0, false, false, false⟩,
  ⟨[106, 117, 109, 112], 5, 0, 0, false, false, false⟩,
  ⟨[122, 101, 114, 111], 3, 5, 0, false, false, false⟩,
  ⟨[103, 111], 6, 0, 0, false, false, true⟩,
  ⟨[108, 111, 99, 107], 7, 0, 0, false, true, false⟩,
  ⟨[117, 110, 108, 111, 99, 107], 7, 0, 0, false, false, true⟩,
  ⟨[114, 108, 111, 99, 107], 7, 0, 0, false, true, false⟩,
  ⟨[114, 117, 110, 108, 111, 99, 107], 7, 0, 0, false, false, true⟩,
  ⟨[114, 101, 97, 100], 2, 8, 0, false, true, false⟩,
  ⟨[119, 114, 105, 116, 101], 8, 3, 0, false, false, true⟩,
  ⟨[98, 117, 109, 112], 2, 8, 3, false, true, true⟩,
  ⟨[115, 101, 110, 100], 9, 3, 0, false, true, true⟩,
  ⟨[114, 101, 99, 118], 2, 9, 0, false, true, true⟩,
  ⟨[112, 111, 108, 108], 2, 9, 2, false, true, true⟩,
  ⟨[99, 108, 111, 115, 101], 9, 0, 0, false, false, true⟩,
  ⟨[103, 114, 111, 119], 10, 1, 0, false, false, true⟩,
  ⟨[119, 97, 105, 116], 10, 0, 0, false, true, false⟩,
  ⟨[98, 101, 103, 105, 110], 2, 11, 0, false, true, false⟩,
  ⟨[101, 110, 100], 11, 0, 0, false, false, true⟩]
def SH : Array Value := (shpTab.map Shp.cells).flatten.toArray
theorem wpList_build_as {P : Program} {ops : Array Oper} {rest : List Oper} {o : Oper} {a : Act} {w : World} {Q : Exit → Act → World → Prop} (cells : Array Value) (hg : o.guard = none) (t : TypeId) (parts : Array (Nat × Operand)) (ho : o.op = .build t parts)
    (hf : P.built t (parts.map fun (i, x) => (i, a.eval x)).toList = some cells)
    (h : wpList P ops Q rest (a.put o.dst (.agg cells)) w) : wpList P ops Q (o :: rest) a w :=
  wpList_build hg t parts ho (by rw [hf]; rfl) (by rw [hf]; exact h)
theorem below_setRow {w W : World} {g : Nat} {cs : Array Value} (h : Below w.heap.size w W) (hg : w.heap.size ≤ g) : Below w.heap.size w (W.setRow g cs) :=
  ⟨h.os, h.tape, h.output, by have := h.size; simpa using this, fun i hi => (setRow_other W g i cs (by omega)).trans (h.block i hi)⟩
theorem below_open {w W : World} {o : Obj} (h : Below (w.alloc o).heap.size (w.alloc o) W) : Below w.heap.size w W :=
  below_then (below_alloc (Below.refl _ _) o) (by simp) h
set_option maxHeartbeats 4000000 in
set_option maxRecDepth 100000 in
theorem shapes (w : World) : Calls Try.prog 25 #[] w fun e w' => e = .returned (.agg SH) ∧ Below w.heap.size w w' := by
  have hz := zvSH
  have HB := Aside0.mk (Below.refl (w.alloc (.cells ZSH 52)).heap.size (w.alloc (.cells ZSH 52)))
  go_enter Try.func25, Try.ntmps25
  go_wp2_with (first | (go_at_call 26; refine (math_any _ _).mono ?_; rintro e w' ⟨rfl, hb⟩; have HB1 := Aside0.mk (below_step HB.out hb); clear HB hb; have HB := HB1; clear HB1) | (go_at_call 27; refine (of_any _ _ _ _ _).mono ?_; rintro e w' ⟨rfl, hb⟩; have HB1 := Aside0.mk (below_step HB.out hb); clear HB hb; have HB := HB1; clear HB1) | (with_reducible refine gate_ (.build 52 _) rfl ?_; refine wpList_build_as SH rfl 52 _ rfl ?hf ?_; case hf => kernel_rfl) | (refine gate_ (.store 52 _ _) rfl ?_; refine wpList_store_row rfl 52 (.tmp 0) (.tmp 58) rfl w.heap.size SH ?x1 ?x2 52 ZSH ?hg ?h1 ?h2 ?h3 ?_; (case x1 => rfl); (case x2 => (kernel_rfl)); (case hg => exact blk_below (blk_new w _) HB.out); (case h1 => kernel_rfl); (case h2 => kernel_rfl); (case h3 => kernel_rfl)))
  
  refine bodyPost_ret (v := .agg SH) ?_ ?_ ?_
  · exact results_cell_row rfl _ _ w.heap.size 52 SH (0, 0) (.array 28 49) (by kernel_rfl) (setRow_heap _ _ ZSH SH _ _ (blk_below (blk_new w _) HB.out)) Try.underlying52 rfl (by kernel_rfl)
  · rfl
  · exact ⟨rfl, below_setRow (below_open HB.out) (Nat.le_refl _)⟩

/-! ### ir_of: function 23 -/
def shpAt (op : Int) : Shp := shpTab.getD op.toNat Shp.zero
theorem SH_at : ∀ i, i < 28 → SH[i * 7]? = some (.string ⟨(shpTab.getD i Shp.zero).nm.toArray⟩) ∧ SH[i * 7 + 1]? = some (.int .u8 (shpTab.getD i Shp.zero).a) ∧ SH[i * 7 + 2]? = some (.int .u8 (shpTab.getD i Shp.zero).b) ∧ SH[i * 7 + 3]? = some (.int .u8 (shpTab.getD i Shp.zero).c) ∧ SH[i * 7 + 4]? = some (.bool (shpTab.getD i Shp.zero).p) ∧ SH[i * 7 + 5]? = some (.bool (shpTab.getD i Shp.zero).q) ∧ SH[i * 7 + 6]? = some (.bool (shpTab.getD i Shp.zero).r)
  | 0, _ | 1, _ | 2, _ | 3, _ | 4, _ | 5, _ | 6, _ | 7, _ | 8, _ | 9, _ | 10, _ | 11, _ | 12, _ | 13, _ | 14, _ | 15, _ | 16, _ | 17, _ | 18, _ | 19, _ | 20, _ | 21, _ | 22, _ | 23, _ | 24, _ | 25, _ | 26, _ | 27, _ => ⟨by kernel_rfl, by kernel_rfl, by kernel_rfl, by kernel_rfl, by kernel_rfl, by kernel_rfl, by kernel_rfl⟩
  | n + 28, h => absurd h (by omega)
theorem setRow_cells {W : World} {g : Nat} (h : W.heap[g]? = some (.cells ZSH 52 (0, 0))) {i : Nat} {v : Value} (hv : SH[i]? = some v) : (W.setRow g SH).cell? ⟨g, i, none⟩ = some v :=
  (cell_setRow_same W g i ZSH SH 52 (0, 0) h).trans hv
theorem after_store {w wq : World} {o : Array Value} (hb : Below (w.alloc (.cells o 49)).heap.size (w.alloc (.cells o 49)) wq) :
    Below w.heap.size w ((wq.alloc (.cells ZSH 52)).setRow wq.heap.size SH) ∧ (∀ i v, SH[i]? = some v → ((wq.alloc (.cells ZSH 52)).setRow wq.heap.size SH).cell? ⟨wq.heap.size, i, none⟩ = some v) ∧ ((wq.alloc (.cells ZSH 52)).setRow wq.heap.size SH).heap[w.heap.size]? = some (.cells o 49 (0, 0)) := by
  have h1 : wq.heap[w.heap.size]? = some (.cells o 49 (0, 0)) := blk_below (blk_new w _) hb
  have h2 := blk_lt h1
  refine ⟨below_setRow (below_alloc (below_open hb) _) (by omega), fun i v hv => setRow_cells (blk_new wq _) hv, ?_⟩
  rw [setRow_other _ _ _ _ (by omega)]
  exact blk_alloc h1 _
set_option maxHeartbeats 4000000 in
set_option maxRecDepth 100000 in
theorem of_in (op : Int) (h0 : 0 ≤ op) (h1 : op < 28) (w : World) : Calls Try.prog 23 #[.int .u8 op] w fun e w' => e = .returned (.tuple #[.agg (shpAt op).cells.toArray, .bool true]) ∧ Below w.heap.size w w' := by
  have hz := zvSH
  obtain ⟨n, rfl⟩ := Int.eq_ofNat_of_zero_le h0
  have HT := SH_at n (by omega)
  show Calls Try.prog 23 #[.int .u8 n] w fun e w' => e = .returned (.tuple #[.agg (shpTab.getD n Shp.zero).cells.toArray, .bool true]) ∧ Below w.heap.size w w'
  generalize shpTab.getD n Shp.zero = s at HT ⊢
  replace HT := Aside0.mk HT
  go_enter Try.func23, Try.ntmps23
  go_wp2_with (first | (go_at_call 25; refine (shapes _).mono ?_; rintro e wq ⟨rfl, hb⟩; have HB1 := Aside0.mk hb; clear hb) | (refine gate_ (.store 52 _ _) rfl ?_; refine wpList_store_row rfl 52 (.tmp 4) (.tmp 5) rfl wq.heap.size SH ?x1 ?x2 52 ZSH ?hg ?h1 ?h2 ?h3 ?_; (case x1 => rfl); (case x2 => rfl); (case hg => exact blk_new wq _); (case h1 => kernel_rfl); (case h2 => kernel_rfl); (case h3 => kernel_rfl); have HA := Aside0.mk (after_store HB1.out); generalize World.setRow _ _ _ = W2 at HA ⊢; generalize wq.heap.size = g at HA ⊢; have hc := HA.out.2.1; have hc0 := hc _ _ HT.out.1; have hc1 := hc _ _ HT.out.2.1; have hc2 := hc _ _ HT.out.2.2.1; have hc3 := hc _ _ HT.out.2.2.2.1; have hc4 := hc _ _ HT.out.2.2.2.2.1; have hc5 := hc _ _ HT.out.2.2.2.2.2.1; have hc6 := hc _ _ HT.out.2.2.2.2.2.2; clear hc) | (refine gate_ (.store 49 _ _) rfl ?_; refine wpList_store_row rfl 49 (.tmp 2) (.tmp 12) rfl w.heap.size s.cells.toArray ?x1 ?x2 49 _ HA.out.2.2 ?h1 ?h2 ?h3 ?_; (case x1 => rfl); (case x2 => rfl); (case h1 => kernel_rfl); (case h2 => rfl); (case h3 => kernel_rfl)))
  refine bodyPost_ret (v := .tuple #[.agg s.cells.toArray, .bool true]) ?_ ?_ ?_
  · exact results_ct (p := 2) (u := 3) (ty := 49) rfl _ _ w.heap.size 49 s.cells.toArray (0, 0) _ rfl (setRow_heap _ _ _ _ _ _ HA.out.2.2) Try.underlying49 rfl (by kernel_rfl)
  · rfl
  · exact ⟨rfl, below_setRow HA.out.1 (Nat.le_refl _)⟩
set_option maxHeartbeats 4000000 in
set_option maxRecDepth 100000 in
theorem of_out (op : Int) (h1 : 28 ≤ op) (h2 : op ≤ 255) (w : World) : Calls Try.prog 23 #[.int .u8 op] w fun e w' => e = .returned (.tuple #[.agg (shpAt op).cells.toArray, .bool false]) ∧ Below w.heap.size w w' := by
  have hz := zvSH
  obtain ⟨n, rfl⟩ := Int.eq_ofNat_of_zero_le (show (0 : Int) ≤ op by omega)
  have hs : shpAt n = Shp.zero := by
    show shpTab.getD n Shp.zero = Shp.zero
    rw [List.getD_eq_getElem?_getD, List.getElem?_eq_none (by show 28 ≤ n; omega)]; rfl
  rw [hs]
  clear hs
  go_enter Try.func23, Try.ntmps23
  go_wp2_with (first | (go_at_call 25; refine (shapes _).mono ?_; rintro e wq ⟨rfl, hb⟩; have HB1 := Aside0.mk hb; clear hb) | (refine gate_ (.store 52 _ _) rfl ?_; refine wpList_store_row rfl 52 (.tmp 4) (.tmp 5) rfl wq.heap.size SH ?x1 ?x2 52 ZSH ?hg ?h1 ?h2 ?h3 ?_; (case x1 => rfl); (case x2 => rfl); (case hg => exact blk_new wq _); (case h1 => kernel_rfl); (case h2 => kernel_rfl); (case h3 => kernel_rfl); have HA := Aside0.mk (after_store HB1.out); generalize World.setRow _ _ _ = W2 at HA ⊢; generalize wq.heap.size = g at HA ⊢) | (refine gate_ (.store 49 _ _) rfl ?_; refine wpList_store_row rfl 49 (.tmp 2) (.tmp 9) rfl w.heap.size Shp.zero.cells.toArray ?x1 ?x2 49 _ HA.out.2.2 ?h1 ?h2 ?h3 ?_; (case x1 => rfl); (case x2 => rfl); (case h1 => kernel_rfl); (case h2 => rfl); (case h3 => kernel_rfl)))
  refine bodyPost_ret (v := .tuple #[.agg Shp.zero.cells.toArray, .bool false]) ?_ ?_ ?_
  · exact results_ct (p := 2) (u := 3) (ty := 49) rfl _ _ w.heap.size 49 Shp.zero.cells.toArray (0, 0) _ rfl (setRow_heap _ _ _ _ _ _ HA.out.2.2) Try.underlying49 rfl (by kernel_rfl)
  · rfl
  · exact ⟨rfl, below_setRow HA.out.1 (Nat.le_refl _)⟩
theorem of_all (op : Int) (h0 : 0 ≤ op) (h2 : op ≤ 255) (w : World) : Calls Try.prog 23 #[.int .u8 op] w fun e w' => e = .returned (.tuple #[.agg (shpAt op).cells.toArray, .bool (decide (op < 28))]) ∧ Below w.heap.size w w' := by
  by_cases h : op < 28
  · rw [decide_eq_true h]; exact of_in op h0 h w
  · rw [decide_eq_false h]; exact of_out op (by omega) h2 w

theorem after_box {w wq W2 : World} {o : Array Value} {s : Shp} (e : (wq.alloc (.cells o 49)).setRow wq.heap.size s.cells.toArray = W2) (hb : Below w.heap.size w wq) :
    Below w.heap.size w W2 ∧ (∀ i v, s.cells.toArray[i]? = some v → W2.cell? ⟨wq.heap.size, i, none⟩ = some v) := by
  subst e
  exact ⟨below_setRow (below_alloc hb _) hb.size, fun i _ hv => (cell_setRow_same _ _ i o _ 49 (0, 0) (blk_new wq _)).trans hv⟩

/-! ### ir_Plain: function 15 -/
def ir_Plain.f (a0 : Int) : Option Bool := if 0 ≤ a0 then (if a0 ≤ 255 then some (shpAt a0).p else none) else none
set_option maxHeartbeats 4000000 in
theorem ir_Plain.calls (a0 : Int) (r : Bool) (w : World) (h : ir_Plain.f a0 = some r) :
    Calls Try.prog 15 #[.int .u8 a0] w fun e w' => e = .returned (.bool r) ∧ Below w.heap.size w w' := by
  unfold ir_Plain.f at h
  by_cases h0 : 0 ≤ a0
  · rw [if_pos h0] at h
    by_cases h1 : a0 ≤ 255
    · rw [if_pos h1] at h
      obtain rfl := Option.some.inj h
      have HO : ∀ w, Calls Try.prog 23 #[.int .u8 a0] w fun e w' => e = .returned (.tuple #[.agg (shpAt a0).cells.toArray, .bool (decide (a0 < 28))]) ∧ Below w.heap.size w w' := fun w => of_all a0 h0 h1 w
      clear h h0 h1
      generalize decide (a0 < 28) = bb at HO
      generalize shpAt a0 = s at HO ⊢
      replace HO := Aside0.mk HO
      go_enter Try.func15, Try.ntmps15
      go_wp2_with (first | (go_at_call 23; refine (HO.out _).mono ?_; rintro e wq ⟨rfl, hb⟩; have HB1 := Aside0.mk hb; clear hb) | (refine gate_ (.store 49 _ _) rfl ?_; refine wpList_store_row rfl 49 (.tmp 3) (.tmp 8) rfl wq.heap.size s.cells.toArray ?x1 ?x2 49 _ (blk_new wq _) ?h1 ?h2 ?h3 ?_; (case x1 => rfl); (case x2 => rfl); (case h1 => kernel_rfl); (case h2 => rfl); (case h3 => kernel_rfl); generalize hW2 : World.setRow _ _ _ = W2; have HA := Aside0.mk (after_box hW2 HB1.out); clear hW2; generalize wq.heap.size = g at HA ⊢; have hc := HA.out.2 4 _ rfl))
      go_ret
      exact ⟨rfl, HA.out.1⟩

    · rw [if_neg h1] at h
      exact absurd h (by simp)
  · rw [if_neg h0] at h
    exact absurd h (by simp)

/-! ### seg_Heads: function 8 -/
def markL (l : List Bool) (i : Int) : List Bool := if 0 ≤ i then (if i < (l.length : Int) then l.set i.toNat true else l) else l
structure HSt (w0 w : World) (g : Nat) (l : List Bool) : Prop where
  below : Below w0.heap.size w0 w
  base : w0.heap.size ≤ g
  row : ∃ v, w.heap[g]? = some (.cells #[v] 27 (0, 0)) ∧ Kd.R Kd.bool 4 w w0.heap.size (fun k => k ≠ g) v l
def HKeep (w w' : World) : Prop := ∀ (p : Nat) (cells : Array Value) (t : TypeId) (fr : Nat × Nat), t ≠ 4 → w.heap[p]? = some (Obj.cells cells t fr) → w'.heap[p]? = some (Obj.cells cells t fr)
theorem HSt.step {w0 w w' : World} {g : Nat} {l : List Bool} (h : HSt w0 w g l) (hb : Below w.heap.size w w') : HSt w0 w' g l := by
  obtain ⟨v, h1, h2⟩ := h.row
  exact ⟨below_step h.below hb, h.base, v, blk_below h1 hb, Kd.R_below h2 hb⟩
set_option maxHeartbeats 1000000 in
theorem mark_any {w0 w : World} {g : Nat} {l : List Bool} (h : HSt w0 w g l) (i : Int) :
    Calls Try.prog 14 #[.int .i64 i, .pointer (some ⟨g, 0, none⟩)] w fun e w' => e = .returned (.tuple #[]) ∧ HSt w0 w' g (markL l i) ∧ HKeep w w' := by
  obtain ⟨hB, hg, v, hblk, hR⟩ := h
  obtain ⟨A, c, rfl⟩ := Kd.R_slice hR
  have hc : w.cell? ⟨g, 0, none⟩ = some (.slice A l.length c) := (blk_cell hblk 0).trans rfl
  unfold markL
  by_cases h0 : 0 ≤ i
  · rw [if_pos h0]
    have d0 : decide (0 ≤ i) = true := decide_eq_true h0
    by_cases h1 : i < (l.length : Int)
    · rw [if_pos h1]
      obtain ⟨b, cap, e, hb, hbl, cells, hcells⟩ := Kd.R_form hR (by omega)
      obtain ⟨rfl, rfl⟩ : A = some ⟨b, 0, none⟩ ∧ c = cap := by injection e; exact ⟨‹_›, ‹_›⟩
      clear e
      have d1 : decide (i < (l.length : Int)) = true := decide_eq_true h1
      obtain ⟨hc1, hf1⟩ := Kd.R_cell false hR i h0 h1
      have HF := Aside0.mk (Kd.R_put hR i true)
      have hne : g ≠ b := fun he => (hR.1 b rfl) he.symm
      have HB := Aside0.mk hB
      have HK := Aside0.mk hblk
      clear hB hblk hR
      go_enter Try.func14, Try.ntmps14
      go_wp2
      go_end0
      refine ⟨rfl, ⟨below_set HB.out hb, hg, _, blk_far HK.out hne _, HF.out.1⟩, fun p cells' t fr ht hp => ?_⟩
      rw [Below.heap_setCell _ _ _ _ (fun he => by subst he; rw [hp] at hcells; injection hcells with hcells; injection hcells with _ hh; exact ht hh)]
      exact hp
    · rw [if_neg h1]
      have d1 : decide (i < (l.length : Int)) = false := decide_eq_false h1
      have HF := Aside0.mk (HSt.mk hB hg ⟨_, hblk, hR⟩)
      clear hB hblk hR
      go_enter Try.func14, Try.ntmps14
      go_wp2
      go_end0
      exact ⟨rfl, HF.out, fun _ _ _ _ _ h => h⟩
  · rw [if_neg h0]
    have d0 : decide (0 ≤ i) = false := decide_eq_false h0
    have HF := Aside0.mk (HSt.mk hB hg ⟨_, hblk, hR⟩)
    clear hB hblk hR
    go_enter Try.func14, Try.ntmps14
    go_wp2
    go_end0
    exact ⟨rfl, HF.out, fun _ _ _ _ _ h => h⟩
theorem HSt.new {w w1 : World} {v : Value} {l : List Bool} (hr : Kd.R Kd.bool 4 w1 w.heap.size (fun _ => True) v l) (hb : Below w.heap.size w w1) : HSt w (w1.alloc (.cells #[v] 27)) w1.heap.size l :=
  ⟨below_alloc hb _, hb.size, v, blk_new _ _, Kd.R_alloc (Kd.R_mono (Kd.R_bound hr) (fun _ hk => Nat.ne_of_lt hk.2.2.1)) _⟩
theorem HSt.out {w0 w : World} {g : Nat} {l : List Bool} (h : HSt w0 w g l) : ∃ v, w.cell? ⟨g, 0, none⟩ = some v ∧ Kd.R Kd.bool 4 w w0.heap.size (fun _ => True) v l ∧ ∃ A c, v = .slice A l.length c := by
  obtain ⟨v, h1, h2⟩ := h.row
  exact ⟨v, (blk_cell h1 0).trans rfl, Kd.R_mono h2 (fun _ _ => trivial), Kd.R_slice h2⟩
def headsStep (l : List Bool) (i : Int) (x : S25) : List Bool :=
  let l1 := if x.f0 = 10 then markL l x.f1 else if x.f0 = 11 then markL l x.f2 else l
  if (shpAt x.f0).p = true then l1 else markL (markL l1 i) (i + 1)
def headsK (c : List S25) : Nat → List Bool
  | 0 => markL (List.replicate c.length false) 0
  | k + 1 => headsStep (headsK c k) k (rd_T25 c k)
def seg_Heads.f (l0 : List (S25)) : Option (List Bool) := if l0.length ≤ 140737488355328 then (if (l0.all fun x => decide (0 ≤ x.f0) && decide (x.f0 ≤ 255)) = true then some (headsK l0 l0.length) else none) else none
set_option maxHeartbeats 8000000 in
set_option maxRecDepth 100000 in
theorem seg_Heads.calls (A0 : Option Addr) (c0 : Nat) (l0 : List (S25)) (r : List Bool) (w : World) (hr0 : Kd.C k25 w A0 l0.length l0) (hc0 : l0.length ≤ c0) (h : seg_Heads.f l0 = some r) :
    Calls Try.prog 8 #[.slice A0 l0.length c0] w fun e w' => ∃ v0_ : Value, e = .returned (v0_) ∧ Kd.R Kd.bool 4 w' w.heap.size (fun _ => True) v0_ r ∧ Below w.heap.size w w' := by
  unfold seg_Heads.f at h
  by_cases h1 : l0.length ≤ 140737488355328
  · rw [if_pos h1] at h
    by_cases h2 : (l0.all fun x => decide (0 ≤ x.f0) && decide (x.f0 ≤ 255)) = true
    · rw [if_pos h2] at h
      obtain rfl := Option.some.inj h
      have H2 := Aside0.mk h2
      have HR0 := Aside0.mk hr0
      have HC0 := Aside0.mk hc0
      clear h hr0 hc0 h2
      go_enter Try.func8, Try.ntmps8
      go_wp2_with (first | (refine gate_ (.makeSlice 27 _ _) rfl ?_; refine Kd.R_make Kd.bool (w0 := w) w.heap.size 4 rfl rfl 27 (.tmp 8) (.tmp 8) rfl (l0.length : Int) rfl rfl Try.underlying27 (.bool false) 1 info4 rfl (by decide) (by decide) false (ok := fun _ => True) (okp := fun _ => False) ?hz (fun _ h => h.elim) trivial (by omega) ?hl (Below.refl _ _) (Nat.le_refl _) ?_; (case hz => rfl); (case hl => (rw [Int.toNat_natCast]; omega)); intro v1 w1 hr hb hgr hown; clear hgr hown; rw [Int.toNat_natCast] at hr; have HL := Aside0.mk (show headsK l0 0 = markL (List.replicate l0.length false) 0 from rfl); generalize List.replicate l0.length false = L0 at hr HL; obtain ⟨A1, c1, rfl⟩ := Kd.R_slice hr; have HS := Aside0.mk (HSt.new hr hb); clear hr hb) | (go_at_call 14; with_reducible refine (mark_any HS.out _).mono ?_; rintro e w2 ⟨rfl, hs, hk⟩; have HS1 := Aside0.mk hs; clear HS hs hk; have HS := HS1; clear HS1))
      generalize w1.heap.size = g at HS ⊢
      go_loopw [15] (fun v15 wr => ∃ n : Nat, n ≤ l0.length ∧ v15 = .int .i64 (n : Int) ∧ Aside0 (HSt w wr g (headsK l0 n))) (fun v15 _ => l0.length - (intOf v15).toNat)
      case atStart => exact ⟨0, Nat.zero_le _, rfl, ⟨by rw [HL.out]; exact HS.out⟩⟩
      case round =>
        clear HS HL
        obtain ⟨n, hn, rfl, HS⟩ := hrel
        by_cases hlt : n < l0.length
        · have hp : 0 ≤ (rd_T25 l0 n).f0 ∧ (rd_T25 l0 n).f0 ≤ 255 := by
            have h3 := List.all_eq_true.1 H2.out (rd_T25 l0 n) (by
              show l0.getD (n : Int).toNat z25 ∈ l0
              rw [Int.toNat_natCast, List.getD_eq_getElem?_getD, List.getElem?_eq_getElem hlt]
              exact List.getElem_mem hlt)
            simpa using h3
          have HP := Aside0.mk hp
          have HN := Aside0.mk (show headsK l0 (n + 1) = headsStep (headsK l0 n) n (rd_T25 l0 n) from rfl)
          obtain ⟨ad, e0, hx0, hx1, hx2, hx3⟩ := at_T25 (Kd.C_below HR0.out HS.out.below) n (by omega) (by omega)
          cases e0
          rw [Int.toNat_natCast] at hx0 hx1 hx2 hx3
          generalize rd_T25 l0 n = x at HP HN hx0 hx1 hx2 hx3
          obtain ⟨x0, x1, x2, x3⟩ := x
          dsimp only at hx0 hx1 hx2 hx3 HP
          clear hp
          have HPl : ∀ w, Calls Try.prog 15 #[.int .u8 x0] w fun e w' => e = .returned (.bool (shpAt x0).p) ∧ Below w.heap.size w w' := fun w => ir_Plain.calls x0 _ w (by unfold ir_Plain.f; rw [if_pos HP.out.1, if_pos HP.out.2])
          replace HPl := Aside0.mk HPl
          have HN' : headsK l0 (n + 1) = if (shpAt x0).p = true then (if x0 = 10 then markL (headsK l0 n) x1 else if x0 = 11 then markL (headsK l0 n) x2 else headsK l0 n) else markL (markL (if x0 = 10 then markL (headsK l0 n) x1 else if x0 = 11 then markL (headsK l0 n) x2 else headsK l0 n) n) (n + 1) := HN.out
          clear HN HP
          generalize hLN : headsK l0 (n + 1) = LN at HN'
          generalize headsK l0 n = L at HN' HS
          generalize (shpAt x0).p = bp at HN' HPl
          have fin : ∀ {L' : List Bool}, LN = L' → ∀ {w' : World}, HSt w w' g L' → Aside0 (HSt w w' g (headsK l0 (n + 1))) := fun e _ h => ⟨by rw [hLN, e]; exact h⟩
          clear hLN
          replace fin := Aside0.mk @fin
          by_cases c10 : x0 = 10
          · rw [if_pos c10] at HN'
            have d1 : (x0 == 10) = true := beq_iff_eq.2 c10
            cases bp
            all_goals
              replace HN := Aside0.mk HN'
              clear HN' c10
              go_wp2_with (first | (go_at_call 14; (first | (with_reducible refine (mark_any HS.out _).mono ?_) | (with_reducible refine (mark_any (HS.out.step (below_alloc (Below.refl _ _) _)) _).mono ?_)); rintro e w2 ⟨rfl, hs, hk⟩; have HS1 := Aside0.mk hs; (try have hcx := (blk_cell (hk wr.heap.size _ 25 _ (by decide) (blk_new wr _)) 0).trans rfl); clear HS hs hk; have HS := HS1; clear HS1) | (go_at_call 15; refine (HPl.out _).mono ?_; rintro e w3 ⟨rfl, hb⟩; have HS1 := Aside0.mk (show HSt w w3 g _ from by first | exact HS.out.step hb | exact (HS.out.step (below_alloc (Below.refl _ _) _)).step hb); clear HS hb; have HS := HS1; clear HS1))
              go_roundw
              case rel => exact ⟨n + 1, by omega, by go_num, fin.out HN.out HS.out⟩
              case measure => simp [intOf]; omega
          · rw [if_neg c10] at HN'
            have d1 : (x0 == 10) = false := beq_eq_false_iff_ne.2 c10
            by_cases c11 : x0 = 11
            · rw [if_pos c11] at HN'
              have d2 : (x0 == 11) = true := beq_iff_eq.2 c11
              cases bp
              all_goals
                replace HN := Aside0.mk HN'
                clear HN' c10 c11
                go_wp2_with (first | (go_at_call 14; (first | (with_reducible refine (mark_any HS.out _).mono ?_) | (with_reducible refine (mark_any (HS.out.step (below_alloc (Below.refl _ _) _)) _).mono ?_)); rintro e w2 ⟨rfl, hs, hk⟩; have HS1 := Aside0.mk hs; (try have hcx := (blk_cell (hk wr.heap.size _ 25 _ (by decide) (blk_new wr _)) 0).trans rfl); clear HS hs hk; have HS := HS1; clear HS1) | (go_at_call 15; refine (HPl.out _).mono ?_; rintro e w3 ⟨rfl, hb⟩; have HS1 := Aside0.mk (show HSt w w3 g _ from by first | exact HS.out.step hb | exact (HS.out.step (below_alloc (Below.refl _ _) _)).step hb); clear HS hb; have HS := HS1; clear HS1))
                go_roundw
                case rel => exact ⟨n + 1, by omega, by go_num, fin.out HN.out HS.out⟩
                case measure => simp [intOf]; omega
            · rw [if_neg c11] at HN'
              have d2 : (x0 == 11) = false := beq_eq_false_iff_ne.2 c11
              cases bp
              all_goals
                replace HN := Aside0.mk HN'
                clear HN' c10 c11
                go_wp2_with (first | (go_at_call 14; (first | (with_reducible refine (mark_any HS.out _).mono ?_) | (with_reducible refine (mark_any (HS.out.step (below_alloc (Below.refl _ _) _)) _).mono ?_)); rintro e w2 ⟨rfl, hs, hk⟩; have HS1 := Aside0.mk hs; (try have hcx := (blk_cell (hk wr.heap.size _ 25 _ (by decide) (blk_new wr _)) 0).trans rfl); clear HS hs hk; have HS := HS1; clear HS1) | (go_at_call 15; refine (HPl.out _).mono ?_; rintro e w3 ⟨rfl, hb⟩; have HS1 := Aside0.mk (show HSt w w3 g _ from by first | exact HS.out.step hb | exact (HS.out.step (below_alloc (Below.refl _ _) _)).step hb); clear HS hb; have HS := HS1; clear HS1))
                go_roundw
                case rel => exact ⟨n + 1, by omega, by go_num, fin.out HN.out (by first | exact HS.out | exact HS.out.step (below_alloc (Below.refl _ _) _))⟩
                case measure => simp [intOf]; omega
        · obtain rfl : n = l0.length := by omega
          obtain ⟨v, hv, hr, A, c, rfl⟩ := HS.out.out
          have HV := Aside0.mk hr
          have HB := Aside0.mk HS.out.below
          clear hr HS
          go_wp2
          go_ret
          exact ⟨_, rfl, HV.out, HB.out⟩
    · rw [if_neg h2] at h
      exact absurd h (by simp)
  · rw [if_neg h1] at h
    exact absurd h (by simp)

/-! ### seg_there: function 16 -/
def seg_there.f (l0 : List (S25)) (a1 : Int) : Option (Bool) := if a1 ≥ 0 then (some (decide (a1 < (l0.length : Int)))) else (some false)
set_option maxHeartbeats 8000000 in
set_option maxRecDepth 100000 in
theorem seg_there.calls (A0 : Option Addr) (c0 : Nat) (l0 : List (S25)) (a1 : Int) (r : Bool) (w : World) (hr0 : Kd.C k25 w A0 l0.length l0) (hc0 : l0.length ≤ c0) (h : seg_there.f l0 a1 = some r) :
    Calls Try.prog 16 #[.slice A0 l0.length c0, .int .i64 a1] w fun e w' => e = .returned (.bool r) ∧ Drawn0 w w' := by
  have HR0 := Aside0.mk hr0
  have HC0 := Aside0.mk hc0
  clear hr0 hc0
  have H : (if a1 ≥ 0 then (some (decide (a1 < (l0.length : Int)))) else (some false)) = some r := h
  clear h
  by_cases c3 : a1 ≥ 0
  · rw [if_pos c3] at H
    have c3b0 : decide (0 ≤ a1) = true := decide_eq_true c3
    clear c3
    obtain rfl := Option.some.inj H
    go_enter Try.func16, Try.ntmps16
    go_wp2
    go_ret
    exact ⟨by first | rfl | (simp; done) | (simp [*]; done), by repeat (first | exact Drawn0.refl _ | apply Drawn0.step)⟩
  · rw [if_neg c3] at H
    have c3b0 : decide (0 ≤ a1) = false := decide_eq_false c3
    clear c3
    obtain rfl := Option.some.inj H
    go_enter Try.func16, Try.ntmps16
    go_wp2
    go_ret
    exact ⟨by first | rfl | (simp; done) | (simp [*]; done), by repeat (first | exact Drawn0.refl _ | apply Drawn0.step)⟩

/-! ### slices_Reverse_bool_bool: function 17 -/
def slices_Reverse_bool_bool.l0 : Nat → List Bool → Int → Int → Option (List Bool)
  | 0, _, _, _ => none
  | k + 1, x0, x2, x3 => if x2 < x3 then (if 0 ≤ x3 then (if x3 < (x0.length : Int) then (if 0 ≤ x2 then (if x2 < (x0.length : Int) then (slices_Reverse_bool_bool.l0 k ((x0.set (x2 : Int).toNat (rdOf false x0 x3)).set (x3 : Int).toNat (rdOf false x0 x2)) (wrap64 (x2 + 1)) (wrap64 (x3 - 1))) else (none)) else (none)) else (none)) else (none)) else (some x0)
def slices_Reverse_bool_bool.f (k : Nat) (l0 : List Bool) : Option (List Bool) := slices_Reverse_bool_bool.l0 k l0 0 (wrap64 ((l0.length : Int) - 1))
theorem slices_Reverse_bool_bool.mono_l : ∀ k, (∀ y0 y1 y2, LeO (slices_Reverse_bool_bool.l0 k y0 y1 y2) (slices_Reverse_bool_bool.l0 (k + 1) y0 y1 y2))
  | 0 => fun _ _ _ r h => by simp [slices_Reverse_bool_bool.l0] at h
  | k + 1 => by
    have ih0 := slices_Reverse_bool_bool.mono_l k
    · intro y0 y1 y2
      unfold slices_Reverse_bool_bool.l0
      repeat' first
      | (with_reducible exact ih0 _ _ _)
      | (with_reducible exact LeO.refl _)
      | (with_reducible exact LeO.none _)
      | (with_reducible refine LeO.ite ?_ ?_)
      | (with_reducible refine LeO.bind ?_ (fun _ => ?_))
      | exact ih0 _ _ _
      | exact LeO.none _
      | refine LeO.ite ?_ ?_
      | refine LeO.bind ?_ (fun _ => ?_)
theorem slices_Reverse_bool_bool.mono : ∀ a0 k, LeO (slices_Reverse_bool_bool.f k a0) (slices_Reverse_bool_bool.f (k + 1) a0) := by
  intro a0 k
  have ih0 := slices_Reverse_bool_bool.mono_l k
  unfold slices_Reverse_bool_bool.f
  repeat' first
      | (with_reducible exact ih0 _ _ _)
      | (with_reducible exact LeO.refl _)
      | (with_reducible exact LeO.none _)
      | (with_reducible refine LeO.ite ?_ ?_)
      | (with_reducible refine LeO.bind ?_ (fun _ => ?_))
      | exact ih0 _ _ _
      | exact LeO.none _
      | refine LeO.ite ?_ ?_
      | refine LeO.bind ?_ (fun _ => ?_)
def slices_Reverse_bool_bool.T3 : Bool × List (List Nat × List Nat) := (true, [([], []), ([], []), ([], []), ([], []), ([], []), ([], []), ([4, 5], [4, 5]), ([6], [6]), ([], []), ([], []), ([8, 9], [8, 9]), ([10], [10]), ([0, 1, 0, 1, 4, 5, 6, 7, 11], [0, 1]), ([12, 7, 0, 1, 4, 5, 6, 7, 11], [7, 12]), ([2, 3, 0, 1, 2, 3, 4, 5, 6, 7, 8, 9, 10, 11, 12, 13], [2, 3]), ([14, 11, 13, 0, 1, 2, 3, 4, 5, 6, 7, 8, 9, 10, 11, 12, 13], [11, 14])])
def slices_Reverse_bool_bool.B3 : List Nat := [0, 0, 0, 0, 0, 0, 48, 112, 0, 0, 768, 1792, 4083, 8179, 16383, 32767]
theorem slices_Reverse_bool_bool.tab3 : rtab .any (opsOf Try.f17 3) = slices_Reverse_bool_bool.T3 := by kernel_rfl
theorem slices_Reverse_bool_bool.bits3 : waitsOk slices_Reverse_bool_bool.T3.2 slices_Reverse_bool_bool.B3 = true := by kernel_rfl
set_option maxHeartbeats 8000000 in
set_option maxRecDepth 100000 in
theorem slices_Reverse_bool_bool.calls (k : Nat) (P0_ : Nat → Prop) (u9000_ : Value) (l0 : List Bool) (r : List Bool) (w0 w : World) (hB : Below w0.heap.size w0 w) (ho0 : Kd.R Kd.bool 4 w w0.heap.size P0_ u9000_ l0) (h : slices_Reverse_bool_bool.f k l0 = some r) :
    Calls Try.prog 17 #[u9000_] w fun e w' => e = .returned (.tuple #[]) ∧ Kd.R Kd.bool 4 w' w0.heap.size (fun k_ => (P0_ k_ ∨ w.heap.size ≤ k_)) u9000_ r ∧ Below w0.heap.size w0 w' ∧ Kept w w' (fun k_ => P0_ k_) := by
  have HO0 := Aside0.mk (show Kd.R Kd.bool 4 w w0.heap.size (fun k_ => (P0_ k_ ∨ w.heap.size ≤ k_)) u9000_ l0 from Kd.R_mono ho0 (fun k_ hk => (.inl hk)))
  have HK := Aside0.mk (Kept.refl w (fun k_ => P0_ k_))
  have HW0 := Aside0.mk hB.size
  have HB := Aside0.mk hB
  clear hB
  have H : (slices_Reverse_bool_bool.l0 k l0 0 (wrap64 ((l0.length : Int) - 1))) = some r := h
  clear h
  have H' := Aside0.mk H
  clear H
  obtain ⟨Ao2, co2, eo2⟩ := Kd.R_slice HO0.out
  subst eo2
  go_enter Try.func17, Try.ntmps17
  go_wp2
  go_loopg [2, 3] k (fun kq v2 v3 w' => ∃ (x0_1 : List Bool) (x2_1 : Int) (x3_1 : Int), v2 = .int .i64 x2_1 ∧ v3 = .int .i64 x3_1 ∧ Aside0 (slices_Reverse_bool_bool.l0 kq x0_1 x2_1 x3_1 = some r) ∧ Aside0 (kq ≤ k) ∧ Aside0 (Kd.R Kd.bool 4 w' w0.heap.size (fun k_ => (P0_ k_ ∨ w.heap.size ≤ k_)) (.slice Ao2 l0.length co2) x0_1) ∧ Aside0 (Kept w w' (fun k_ => P0_ k_)) ∧ Aside0 (Below w0.heap.size w0 w'))
  case atStart => exact ⟨(l0), (0), (wrap64 ((l0.length : Int) - 1)), (by first | rfl | (simp; done) | (simp [*]; done)), (by first | rfl | (simp; done) | (simp [*]; done)), H', ⟨Nat.le_refl _⟩, ⟨by (with_reducible repeat (first | apply Kd.R_alloc | apply Kd.R_drewN | apply Kd.R_drew)); exact HO0.out⟩, ⟨by repeat (first | (with_reducible first | exact HK.out | apply Kept.alloc | apply Kept.drewN | apply Kept.drew) | exact HK.out)⟩, ⟨by repeat (first | (with_reducible first | exact HB.out | apply below_alloc | apply pw_below_drewN | apply below_drew1) | exact HB.out)⟩⟩
  case round =>
    clear H'
    try clear c1
    try clear p2
    obtain ⟨x0_1, x2_1, x3_1, rfl, rfl, HA, HK1, HO_0, HK, HB⟩ := hrel
    have hl0_1 := (Kd.R_reads' HO_0.out).1
    rw [hl0_1] at HO_0
    (try simp only [hl0_1])
    cases gk with
    | zero => exact absurd HA.out (by simp [slices_Reverse_bool_bool.l0])
    | succ k1 =>
      have H := HA.out
      clear HA
      simp only [slices_Reverse_bool_bool.l0] at H
      by_cases c3 : x2_1 < x3_1
      · rw [if_pos c3] at H
        have c3b0 : decide (x2_1 < x3_1) = true := decide_eq_true c3
        clear c3
        by_cases c4 : 0 ≤ x3_1
        · rw [if_pos c4] at H
          have c4b0 : decide (0 ≤ x3_1) = true := decide_eq_true c4
          clear c4
          by_cases c5 : x3_1 < (x0_1.length : Int)
          · rw [if_pos c5] at H
            have c5b0 : decide (x3_1 < (x0_1.length : Int)) = true := decide_eq_true c5
            clear c5
            by_cases c6 : 0 ≤ x2_1
            · rw [if_pos c6] at H
              have c6b0 : decide (0 ≤ x2_1) = true := decide_eq_true c6
              clear c6
              by_cases c7 : x2_1 < (x0_1.length : Int)
              · rw [if_pos c7] at H
                have c7b0 : decide (x2_1 < (x0_1.length : Int)) = true := decide_eq_true c7
                clear c7
                obtain ⟨y103, hy103⟩ : ∃ y_ : List Bool, y_ = (x0_1.set (x2_1 : Int).toNat (rdOf false x0_1 x3_1)) := ⟨_, rfl⟩
                replace H : (slices_Reverse_bool_bool.l0 k1 (y103.set (x3_1 : Int).toNat (rdOf false x0_1 x2_1)) (wrap64 (x2_1 + 1)) (wrap64 (x3_1 - 1))) = some r := by first | (rw [hy103]; with_reducible exact H) | (have H2_ := (Option.bind_some _ _).symm.trans H; rw [hy103]; with_reducible exact H2_) | (have H2_ := (Option.bind_some _ _).symm.trans H; with_reducible exact H2_) | with_reducible exact H | (rw [hy103]; exact H) | exact H
                have Ny103 := Aside0.mk hy103
                clear hy103
                obtain ⟨y104, hy104⟩ : ∃ y_ : List Bool, y_ = (y103.set (x3_1 : Int).toNat (rdOf false x0_1 x2_1)) := ⟨_, rfl⟩
                replace H : (slices_Reverse_bool_bool.l0 k1 y104 (wrap64 (x2_1 + 1)) (wrap64 (x3_1 - 1))) = some r := by first | (rw [hy104]; with_reducible exact H) | (have H2_ := (Option.bind_some _ _).symm.trans H; rw [hy104]; with_reducible exact H2_) | (have H2_ := (Option.bind_some _ _).symm.trans H; with_reducible exact H2_) | with_reducible exact H | (rw [hy104]; exact H) | exact H
                have Ny104 := Aside0.mk hy104
                clear hy104
                have H' := Aside0.mk H
                clear H
                try go_wp2
                have n0_ := Aside0.mk (Kd.R_drew HO_0.out)
                have n1_ := Aside0.mk (Kept.drew HK.out)
                have n2_ := Aside0.mk (below_drew1 HB.out)
                clear HO_0
                clear HK
                clear HB
                have HO_0 := n0_
                have HK := n1_
                have HB := n2_
                clear n0_ n1_ n2_
                have p101 : 0 ≤ (x3_1 : Int) := of_decide_eq_true (by first | (with_reducible assumption) | assumption)
                have q101 : x3_1 < (x0_1.length : Int) := of_decide_eq_true (by first | (with_reducible assumption) | assumption)
                obtain ⟨ad101, e101, hx101_0⟩ := Kd.at_bool (Kd.R_reads' HO_0.out).2.2 x3_1 p101 q101
                cases e101
                replace p101 := eq_true p101
                replace q101 := eq_true q101
                have p102 : 0 ≤ (x2_1 : Int) := of_decide_eq_true (by first | (with_reducible assumption) | assumption)
                have q102 : x2_1 < (x0_1.length : Int) := of_decide_eq_true (by first | (with_reducible assumption) | assumption)
                obtain ⟨ad102, e102, hx102_0⟩ := Kd.at_bool (Kd.R_reads' HO_0.out).2.2 x2_1 p102 q102
                obtain rfl : ad101 = ad102 := (by injection e102)
                replace p102 := eq_true p102
                replace q102 := eq_true q102
                have p8 : 0 ≤ (x2_1 : Int) := of_decide_eq_true (by first | (with_reducible assumption) | assumption)
                have q8 : (x2_1 : Int) < ((x0_1.length : Int) : Int) := of_decide_eq_true (by first | (with_reducible assumption) | assumption)
                obtain ⟨go8, co8, eo8, gb8, gl8, cl8, HG8⟩ := Kd.R_form HO_0.out (by omega)
                (first | cases eo8 | (injection eo8 with ea_ en_ ec_; (first | subst ea_ | (injection ea_ with ea_; subst ea_)); subst ec_; clear en_))
                have GB8 := Aside0.mk gb8
                have GG8 := Aside0.mk HG8
                clear gb8 gl8 HG8
                have HMgo8 := Aside0.mk (show (P0_ go8 ∨ w.heap.size ≤ go8) from (HO_0.out.1 _ rfl))
                (first | simp only [add_plain] at hx101_0 | skip)
                (first | simp only [add_plain] at hx102_0 | skip)
                obtain ⟨hx8_0, hf8_0⟩ := Kd.R_celln false HO_0.out (x2_1 : Int) p8 q8
                replace p8 := eq_true p8
                replace q8 := eq_true q8
                have HP11 := Kd.R_putn HO_0.out (x2_1 : Int) (rdOf false x0_1 x3_1)
                rw [← Ny103.out] at HP11
                have HQ11 := Aside0.mk HP11
                clear HP11
                have p9 : 0 ≤ (x3_1 : Int) := of_decide_eq_true (by first | (with_reducible assumption) | assumption)
                have q9 : (x3_1 : Int) < ((x0_1.length : Int) : Int) := of_decide_eq_true (by first | (with_reducible assumption) | assumption)
                obtain ⟨hx9_0, hf9_0⟩ := Kd.R_celln false HQ11.out (x3_1 : Int) p9 q9
                replace p9 := eq_true p9
                replace q9 := eq_true q9
                have HP12 := Kd.R_putn HQ11.out (x3_1 : Int) (rdOf false x0_1 x2_1)
                rw [← Ny104.out] at HP12
                have HQ12 := Aside0.mk HP12
                clear HP12
                refine start_ (n := 16) (S := fun w' => w'.cell? ⟨go8, (x3_1).toNat, none⟩ = some (.bool (rdOf false x0_1 x3_1)) ∧ w'.cell? ⟨go8, (x2_1).toNat, none⟩ = some (.bool (rdOf false x0_1 x2_1))) (ds := [13, 15]) #[false, false, false, false, false, false, false, false, false, false, false, false, false, false, false, false] (by kernel_rfl) rfl rfl ⟨hx101_0, hx102_0⟩ (fun hHeld => ?_); refine with_tabW slices_Reverse_bool_bool.tab3 slices_Reverse_bool_bool.bits3 (fun HT_ HW_ => ?_)
                generalize wr.drew = w10 at HO_0 HK HB GG8 HQ11 HQ12 hf8_0 hf9_0 hx101_0 hx102_0 hx8_0 hx9_0 hHeld ⊢
                refine pure_ (i := 0) (N := some 14) (v := ?_) (a' := ?_) #[true, false, false, false, false, false, false, false, false, false, false, false, false, false, false, false] rfl rfl (any_of HT_.out (by kernel_rfl)) (fun _ _ _ h => h) (Or.inl ⟨by rfl, ?_⟩) ?_ ?_
                rotate_left
                · intro w'
                  go_simp
                  with_reducible rfl
                rotate_left
                · simp only [Act.put, List.setIfInBounds_toArray, List.set_cons_zero, List.set_cons_succ, i64_w, i32_w]
                  rfl
                refine pure_ (i := 1) (N := some 15) (v := ?_) (a' := ?_) #[true, true, false, false, false, false, false, false, false, false, false, false, false, false, false, false] rfl rfl (any_of HT_.out (by kernel_rfl)) (fun _ _ _ h => h) (Or.inl ⟨by rfl, ?_⟩) ?_ ?_
                rotate_left
                · intro w'
                  go_simp
                  with_reducible rfl
                rotate_left
                · simp only [Act.put, List.setIfInBounds_toArray, List.set_cons_zero, List.set_cons_succ, i64_w, i32_w]
                  rfl
                refine pure_ (i := 2) (N := some 16) (v := ?_) (a' := ?_) #[true, true, true, false, false, false, false, false, false, false, false, false, false, false, false, false] rfl rfl (any_of HT_.out (by kernel_rfl)) (fun _ _ _ h => h) (Or.inl ⟨by rfl, ?_⟩) ?_ ?_
                rotate_left
                · intro w'
                  go_simp
                  with_reducible rfl
                rotate_left
                · simp only [Act.put, List.setIfInBounds_toArray, List.set_cons_zero, List.set_cons_succ, i64_w, i32_w]
                  rfl
                refine pure_ (i := 3) (N := some 17) (v := ?_) (a' := ?_) #[true, true, true, true, false, false, false, false, false, false, false, false, false, false, false, false] rfl rfl (any_of HT_.out (by kernel_rfl)) (fun _ _ _ h => h) (Or.inl ⟨by rfl, ?_⟩) ?_ ?_
                rotate_left
                · intro w'
                  go_simp
                  with_reducible rfl
                rotate_left
                · simp only [Act.put, List.setIfInBounds_toArray, List.set_cons_zero, List.set_cons_succ, i64_w, i32_w]
                  rfl
                refine pure_ (i := 4) (N := some 18) (v := ?_) (a' := ?_) #[true, true, true, true, true, false, false, false, false, false, false, false, false, false, false, false] rfl rfl (any_of HT_.out (by kernel_rfl)) (fun _ _ _ h => h) (Or.inl ⟨by rfl, ?_⟩) ?_ ?_
                rotate_left
                · intro w'
                  go_simp
                  with_reducible rfl
                rotate_left
                · simp only [Act.put, List.setIfInBounds_toArray, List.set_cons_zero, List.set_cons_succ, i64_w, i32_w]
                  rfl
                refine pure_ (i := 5) (N := some 19) (v := ?_) (a' := ?_) #[true, true, true, true, true, true, false, false, false, false, false, false, false, false, false, false] rfl rfl (any_of HT_.out (by kernel_rfl)) (fun _ _ _ h => h) (Or.inl ⟨by rfl, ?_⟩) ?_ ?_
                rotate_left
                · intro w'
                  go_simp
                  with_reducible rfl
                rotate_left
                · simp only [Act.put, List.setIfInBounds_toArray, List.set_cons_zero, List.set_cons_succ, i64_w, i32_w]
                  rfl
                refine pure_ (i := 6) (N := some 20) (v := ?_) (a' := ?_) #[true, true, true, true, true, true, true, false, false, false, false, false, false, false, false, false] rfl rfl (any_of HT_.out (by kernel_rfl)) (fun _ _ _ h => h) (Or.inl ⟨by rfl, ?_⟩) ?_ ?_
                rotate_left
                · intro w'
                  go_simp
                  with_reducible rfl
                rotate_left
                · simp only [Act.put, List.setIfInBounds_toArray, List.set_cons_zero, List.set_cons_succ, i64_w, i32_w]
                  rfl
                refine pure_ (i := 8) (N := some 22) (v := ?_) (a' := ?_) #[true, true, true, true, true, true, true, false, true, false, false, false, false, false, false, false] rfl rfl (any_of HT_.out (by kernel_rfl)) (fun _ _ _ h => h) (Or.inl ⟨by rfl, ?_⟩) ?_ ?_
                rotate_left
                · intro w'
                  go_simp
                  with_reducible rfl
                rotate_left
                · simp only [Act.put, List.setIfInBounds_toArray, List.set_cons_zero, List.set_cons_succ, i64_w, i32_w]
                  rfl
                refine pure_ (i := 9) (N := some 23) (v := ?_) (a' := ?_) #[true, true, true, true, true, true, true, false, true, true, false, false, false, false, false, false] rfl rfl (any_of HT_.out (by kernel_rfl)) (fun _ _ _ h => h) (Or.inl ⟨by rfl, ?_⟩) ?_ ?_
                rotate_left
                · intro w'
                  go_simp
                  with_reducible rfl
                rotate_left
                · simp only [Act.put, List.setIfInBounds_toArray, List.set_cons_zero, List.set_cons_succ, i64_w, i32_w]
                  rfl
                refine pure_ (i := 10) (N := some 24) (v := ?_) (a' := ?_) #[true, true, true, true, true, true, true, false, true, true, true, false, false, false, false, false] rfl rfl (any_of HT_.out (by kernel_rfl)) (fun _ _ _ h => h) (Or.inl ⟨by rfl, ?_⟩) ?_ ?_
                rotate_left
                · intro w'
                  go_simp
                  with_reducible rfl
                rotate_left
                · simp only [Act.put, List.setIfInBounds_toArray, List.set_cons_zero, List.set_cons_succ, i64_w, i32_w]
                  rfl
                refine take_ (i := 7) (N := some 21) (v := ?_) (a' := ?_) #[true, true, true, true, true, true, true, true, true, true, true, false, false, false, false, false] rfl rfl (take_ofW HT_.out HW_.out (by kernel_rfl)) (fun _ _ _ h => h) (Or.inl ⟨by rfl, ?_⟩) hHeld ?_ ?_
                rotate_left
                · rintro w' ⟨s0, s1⟩
                  go_simp
                  with_reducible rfl
                rotate_left
                · simp only [Act.put, List.setIfInBounds_toArray, List.set_cons_zero, List.set_cons_succ, i64_w, i32_w]
                  rfl
                refine take_ (i := 11) (N := some 25) (v := ?_) (a' := ?_) #[true, true, true, true, true, true, true, true, true, true, true, true, false, false, false, false] rfl rfl (take_ofW HT_.out HW_.out (by kernel_rfl)) (fun _ _ _ h => h) (Or.inl ⟨by rfl, ?_⟩) hHeld ?_ ?_
                rotate_left
                · rintro w' ⟨s0, s1⟩
                  go_simp
                  with_reducible rfl
                rotate_left
                · simp only [Act.put, List.setIfInBounds_toArray, List.set_cons_zero, List.set_cons_succ, i64_w, i32_w]
                  rfl
                refine pure_ (i := 12) (N := some 26) (v := ?_) (a' := ?_) #[true, true, true, true, true, true, true, true, true, true, true, true, true, false, false, false] rfl rfl (any_of HT_.out (by kernel_rfl)) (fun _ _ _ h => h) (Or.inl ⟨by rfl, ?_⟩) ?_ ?_
                rotate_left
                · intro w'
                  go_simp
                  with_reducible rfl
                rotate_left
                · simp only [Act.put, List.setIfInBounds_toArray, List.set_cons_zero, List.set_cons_succ, i64_w, i32_w]
                  rfl
                refine last_ (i := 13) (N := none) #[true, true, true, true, true, true, true, true, true, true, true, true, true, true, false, false] rfl rfl (one_of HT_.out (by kernel_rfl)) (by decide) (fun K hK => ?_)
                refine skip_ (w1 := ?_) (by rfl) rfl ?_ ?_
                rotate_left
                · go_simp
                  rfl
                refine hK.out _ _ ?_
                clear hK K
                refine pure_ (i := 14) (N := some 27) (v := ?_) (a' := ?_) #[true, true, true, true, true, true, true, true, true, true, true, true, true, true, true, false] rfl rfl (any_of HT_.out (by kernel_rfl)) (fun _ _ _ h => h) (Or.inl ⟨by rfl, ?_⟩) ?_ ?_
                rotate_left
                · intro w'
                  go_simp
                  with_reducible rfl
                rotate_left
                · simp only [Act.put, List.setIfInBounds_toArray, List.set_cons_zero, List.set_cons_succ, i64_w, i32_w]
                  rfl
                refine last_ (i := 15) (N := none) #[true, true, true, true, true, true, true, true, true, true, true, true, true, true, true, true] rfl rfl (one_of HT_.out (by kernel_rfl)) (by decide) (fun K hK => ?_)
                refine skip_ (w1 := ?_) (by rfl) rfl ?_ ?_
                rotate_left
                · go_simp
                  rfl
                refine hK.out _ _ ?_
                clear hK K
                refine done_ (done_of HT_.out (by kernel_rfl)) ?_
                try go_wp2
                (try simp only [← hl0_1])
                go_roundg k1
                case measure => have := HK1.out; omega
                case rel => exact ⟨(y104), (wrap64 (x2_1 + 1)), (wrap64 (x3_1 - 1)), (by first | rfl | (simp; done) | (simp [*]; done)), (by first | rfl | (simp; done) | (simp [*]; done)), H', ⟨by have := HK1.out; omega⟩, ⟨by (try simp only [hl0_1]); (with_reducible repeat (first | apply Kd.R_alloc | apply Kd.R_drewN | apply Kd.R_drew)); exact HQ12.out⟩, ⟨by repeat (first | (with_reducible first | exact HK.out | apply Kept.alloc | apply Kept.drewN | apply Kept.drew | refine Kept.setCell ?_ HMgo8.out _ | refine Kept.setCell ?_ HMgo8.out _) | exact HK.out)⟩, ⟨by repeat (first | (with_reducible first | exact HB.out | apply below_alloc | apply pw_below_drewN | apply below_drew1 | refine below_set ?_ GB8.out | refine below_set ?_ GB8.out) | exact HB.out)⟩⟩
              · rw [if_neg c7] at H
                exact absurd H (by simp)
            · rw [if_neg c6] at H
              exact absurd H (by simp)
          · rw [if_neg c5] at H
            exact absurd H (by simp)
        · rw [if_neg c4] at H
          exact absurd H (by simp)
      · rw [if_neg c3] at H
        have c3b0 : decide (x2_1 < x3_1) = false := decide_eq_false c3
        clear c3
        obtain rfl := Option.some.inj H
        go_wp2
        first | go_end0 | ((try simp only [Exit.inBlock, Exit.then]); refine bodyPost_ret (results_none rfl _ _ _) rfl ?_)
        exact ⟨by first | rfl | (simp [errW_none, errW_some] <;> rfl) | (simp [*, errW_none, errW_some] <;> rfl), (by first | exact (by (with_reducible repeat (first | apply Kd.R_alloc | apply Kd.R_drewN | apply Kd.R_drew)); exact HO_0.out) | (simp only [hl0_1]; exact (by (with_reducible repeat (first | apply Kd.R_alloc | apply Kd.R_drewN | apply Kd.R_drew)); exact HO_0.out))), by repeat (first | (with_reducible first | exact HB.out | apply below_alloc | apply pw_below_drewN | apply below_drew1) | exact HB.out), by repeat (first | (with_reducible first | exact HK.out | apply Kept.alloc | apply Kept.drewN | apply Kept.drew) | exact HK.out)⟩

/-! ### slices_Index_bool_bool: function 18 -/
def slices_Index_bool_bool.l0 : Nat → List Bool → Bool → Int → Int → Option (Int)
  | 0, _, _, _, _ => none
  | k + 1, x0, x1, x7, x8 => if x8 < x7 then (if 0 ≤ x8 then (if x8 < (x0.length : Int) then (if (x1 == (rdOf false x0 x8)) = true then (some x8) else (slices_Index_bool_bool.l0 k x0 x1 x7 (wrap64 (x8 + 1)))) else (none)) else (none)) else (some (-1))
def slices_Index_bool_bool.f (k : Nat) (l0 : List Bool) (a1 : Bool) : Option (Int) := slices_Index_bool_bool.l0 k l0 a1 (l0.length : Int) 0
theorem slices_Index_bool_bool.mono_l : ∀ k, (∀ y0 y1 y2 y3, LeO (slices_Index_bool_bool.l0 k y0 y1 y2 y3) (slices_Index_bool_bool.l0 (k + 1) y0 y1 y2 y3))
  | 0 => fun _ _ _ _ r h => by simp [slices_Index_bool_bool.l0] at h
  | k + 1 => by
    have ih0 := slices_Index_bool_bool.mono_l k
    · intro y0 y1 y2 y3
      unfold slices_Index_bool_bool.l0
      repeat' first
      | (with_reducible exact ih0 _ _ _ _)
      | (with_reducible exact LeO.refl _)
      | (with_reducible exact LeO.none _)
      | (with_reducible refine LeO.ite ?_ ?_)
      | (with_reducible refine LeO.bind ?_ (fun _ => ?_))
      | exact ih0 _ _ _ _
      | exact LeO.none _
      | refine LeO.ite ?_ ?_
      | refine LeO.bind ?_ (fun _ => ?_)
theorem slices_Index_bool_bool.mono : ∀ a0 a1 k, LeO (slices_Index_bool_bool.f k a0 a1) (slices_Index_bool_bool.f (k + 1) a0 a1) := by
  intro a0 a1 k
  have ih0 := slices_Index_bool_bool.mono_l k
  unfold slices_Index_bool_bool.f
  repeat' first
      | (with_reducible exact ih0 _ _ _ _)
      | (with_reducible exact LeO.refl _)
      | (with_reducible exact LeO.none _)
      | (with_reducible refine LeO.ite ?_ ?_)
      | (with_reducible refine LeO.bind ?_ (fun _ => ?_))
      | exact ih0 _ _ _ _
      | exact LeO.none _
      | refine LeO.ite ?_ ?_
      | refine LeO.bind ?_ (fun _ => ?_)
set_option maxHeartbeats 8000000 in
set_option maxRecDepth 100000 in
theorem slices_Index_bool_bool.calls (k : Nat) (A0 : Option Addr) (c0 : Nat) (l0 : List Bool) (a1 : Bool) (r : Int) (w : World) (hr0 : Kd.C Kd.bool w A0 l0.length l0) (hc0 : l0.length ≤ c0) (h : slices_Index_bool_bool.f k l0 a1 = some r) :
    Calls Try.prog 18 #[.slice A0 l0.length c0, .bool a1] w fun e w' => e = .returned (.int .i64 r) ∧ Drawn0 w w' := by
  have HR0 := Aside0.mk hr0
  have HC0 := Aside0.mk hc0
  clear hr0 hc0
  have H : (slices_Index_bool_bool.l0 k l0 a1 (l0.length : Int) 0) = some r := h
  clear h
  have H' := Aside0.mk H
  clear H
  go_enter Try.func18, Try.ntmps18
  go_wp2
  go_loopg [8] k (fun kq v8 w' => ∃ (x8_1 : Int), v8 = .int .i64 x8_1 ∧ Aside0 (slices_Index_bool_bool.l0 kq l0 a1 (l0.length : Int) x8_1 = some r) ∧ Aside0 (kq ≤ k) ∧ Drawn0 w w')
  case atStart => exact ⟨(0), (by first | rfl | (simp; done) | (simp [*]; done)), H', ⟨Nat.le_refl _⟩, by repeat (first | exact Drawn0.refl _ | apply Drawn0.step)⟩
  case round =>
    clear H'
    try clear c1
    try clear p2
    obtain ⟨x8_1, rfl, HA, HK1, ⟨m1, rfl⟩⟩ := hrel
    cases gk with
    | zero => exact absurd HA.out (by simp [slices_Index_bool_bool.l0])
    | succ k1 =>
      have H := HA.out
      clear HA
      simp only [slices_Index_bool_bool.l0] at H
      by_cases c3 : x8_1 < (l0.length : Int)
      · rw [if_pos c3] at H
        have c3b0 : decide (x8_1 < (l0.length : Int)) = true := decide_eq_true c3
        clear c3
        by_cases c4 : 0 ≤ x8_1
        · rw [if_pos c4] at H
          have c4b0 : decide (0 ≤ x8_1) = true := decide_eq_true c4
          clear c4
          by_cases c5 : x8_1 < (l0.length : Int)
          · rw [if_pos c5] at H
            have c5b0 : decide (x8_1 < (l0.length : Int)) = true := decide_eq_true c5
            clear c5
            by_cases c6 : (a1 == (rdOf false l0 x8_1)) = true
            · rw [if_pos c6] at H
              have c6b0 : (a1 == (rdOf false l0 x8_1)) = true := c6
              (try (have c6b1 : decide (a1 = (rdOf false l0 x8_1)) = true := by simpa using c6))
              (try (have c6b2 : (a1 == (rdOf false l0 x8_1)) = true := by simpa using c6))
              clear c6
              obtain rfl := Option.some.inj H
              have p105 : 0 ≤ (x8_1 : Int) := of_decide_eq_true (by first | (with_reducible assumption) | assumption)
              have q105 : x8_1 < (l0.length : Int) := of_decide_eq_true (by first | (with_reducible assumption) | assumption)
              obtain ⟨ad105, e105, hx105_0⟩ := Kd.at_bool HR0.out x8_1 p105 q105
              cases e105
              replace p105 := eq_true p105
              replace q105 := eq_true q105
              go_wp2
              go_ret
              exact ⟨by first | rfl | (simp; done) | (simp [*]; done), by repeat (first | exact Drawn0.refl _ | apply Drawn0.step)⟩
            · rw [if_neg c6] at H
              have c6b0 : (a1 == (rdOf false l0 x8_1)) = false := by simpa using c6
              (try (have c6b1 : decide (a1 = (rdOf false l0 x8_1)) = false := by simpa using c6))
              (try (have c6b2 : (a1 == (rdOf false l0 x8_1)) = false := by simpa using c6))
              (try (have c6b3 : ¬ (a1 = (rdOf false l0 x8_1)) := by simpa using c6))
              clear c6
              have H' := Aside0.mk H
              clear H
              have p105 : 0 ≤ (x8_1 : Int) := of_decide_eq_true (by first | (with_reducible assumption) | assumption)
              have q105 : x8_1 < (l0.length : Int) := of_decide_eq_true (by first | (with_reducible assumption) | assumption)
              obtain ⟨ad105, e105, hx105_0⟩ := Kd.at_bool HR0.out x8_1 p105 q105
              cases e105
              replace p105 := eq_true p105
              replace q105 := eq_true q105
              go_wp2
              go_roundg k1
              case measure => have := HK1.out; omega
              case rel => exact ⟨(wrap64 (x8_1 + 1)), (by first | rfl | (simp; done) | (simp [*]; done)), H', ⟨by have := HK1.out; omega⟩, by repeat (first | exact Drawn0.refl _ | apply Drawn0.step)⟩
          · rw [if_neg c5] at H
            exact absurd H (by simp)
        · rw [if_neg c4] at H
          exact absurd H (by simp)
      · rw [if_neg c3] at H
        have c3b0 : decide (x8_1 < (l0.length : Int)) = false := decide_eq_false c3
        clear c3
        obtain rfl := Option.some.inj H
        go_wp2
        go_ret
        exact ⟨by first | rfl | (simp; done) | (simp [*]; done), by repeat (first | exact Drawn0.refl _ | apply Drawn0.step)⟩

/-! ### seg_Head: function 9 -/
def seg_Head.f (k : Nat) (l0 : List (S25)) (a1 : Int) : Option (Int) := (seg_there.f l0 a1).bind fun t106 => (if t106 = true then ((seg_Heads.f l0).bind fun t107 => (if 0 ≤ (wrap64 (a1 + 1)) then (if (wrap64 (a1 + 1)) ≤ (t107.length : Int) then ((slices_Reverse_bool_bool.f k (t107.take ((wrap64 (a1 + 1)) : Int).toNat)).bind fun t113 => ((slices_Index_bool_bool.f k t113 true).bind fun t114 => (some (wrap64 (a1 - t114))))) else (none)) else (none))) else (some a1))
theorem seg_Head.mono : ∀ a0 a1 k, LeO (seg_Head.f k a0 a1) (seg_Head.f (k + 1) a0 a1) := by
  intro a0 a1 k
  unfold seg_Head.f
  repeat' first
      | (with_reducible exact slices_Index_bool_bool.mono _ _ _)
      | (with_reducible exact slices_Reverse_bool_bool.mono _ _)
      | (with_reducible exact LeO.refl _)
      | (with_reducible exact LeO.none _)
      | (with_reducible refine LeO.ite ?_ ?_)
      | (with_reducible refine LeO.bind ?_ (fun _ => ?_))
      | exact slices_Index_bool_bool.mono _ _ _
      | exact slices_Reverse_bool_bool.mono _ _
      | exact LeO.none _
      | refine LeO.ite ?_ ?_
      | refine LeO.bind ?_ (fun _ => ?_)
set_option maxHeartbeats 8000000 in
set_option maxRecDepth 100000 in
theorem seg_Head.calls (k : Nat) (A0 : Option Addr) (c0 : Nat) (l0 : List (S25)) (a1 : Int) (r : Int) (w : World) (hr0 : Kd.C k25 w A0 l0.length l0) (hc0 : l0.length ≤ c0) (h : seg_Head.f k l0 a1 = some r) :
    Calls Try.prog 9 #[.slice A0 l0.length c0, .int .i64 a1] w fun e w' => e = .returned (.int .i64 r) ∧ Below w.heap.size w w' := by
  have HR0 := Aside0.mk hr0
  have HC0 := Aside0.mk hc0
  clear hr0 hc0
  have HB := Aside0.mk (Below.refl w.heap.size w)
  have H : ((seg_there.f l0 a1).bind fun t106 => (if t106 = true then ((seg_Heads.f l0).bind fun t107 => (if 0 ≤ (wrap64 (a1 + 1)) then (if (wrap64 (a1 + 1)) ≤ (t107.length : Int) then ((slices_Reverse_bool_bool.f k (t107.take ((wrap64 (a1 + 1)) : Int).toNat)).bind fun t113 => ((slices_Index_bool_bool.f k t113 true).bind fun t114 => (some (wrap64 (a1 - t114))))) else (none)) else (none))) else (some a1))) = some r := h
  clear h
  replace H := Option.bind_eq_some_iff.mp H
  obtain ⟨t106, A30, H⟩ := H
  replace H : (if t106 = true then ((seg_Heads.f l0).bind fun t107 => (if 0 ≤ (wrap64 (a1 + 1)) then (if (wrap64 (a1 + 1)) ≤ (t107.length : Int) then ((slices_Reverse_bool_bool.f k (t107.take ((wrap64 (a1 + 1)) : Int).toNat)).bind fun t113 => ((slices_Index_bool_bool.f k t113 true).bind fun t114 => (some (wrap64 (a1 - t114))))) else (none)) else (none))) else (some a1)) = some r := H
  have A3 := Aside0.mk A30
  clear A30
  by_cases c4 : t106 = true
  · subst c4
    have H1 : ((seg_Heads.f l0).bind fun t107 => (if 0 ≤ (wrap64 (a1 + 1)) then (if (wrap64 (a1 + 1)) ≤ (t107.length : Int) then ((slices_Reverse_bool_bool.f k (t107.take ((wrap64 (a1 + 1)) : Int).toNat)).bind fun t113 => ((slices_Index_bool_bool.f k t113 true).bind fun t114 => (some (wrap64 (a1 - t114))))) else (none)) else (none))) = some r := by rw [if_pos rfl] at H; exact H
    clear H
    have H := H1
    clear H1
    replace H := Option.bind_eq_some_iff.mp H
    obtain ⟨t107, A50, H⟩ := H
    replace H : (if 0 ≤ (wrap64 (a1 + 1)) then (if (wrap64 (a1 + 1)) ≤ (t107.length : Int) then ((slices_Reverse_bool_bool.f k (t107.take ((wrap64 (a1 + 1)) : Int).toNat)).bind fun t113 => ((slices_Index_bool_bool.f k t113 true).bind fun t114 => (some (wrap64 (a1 - t114))))) else (none)) else (none)) = some r := H
    have A5 := Aside0.mk A50
    clear A50
    obtain ⟨ji6, hji6⟩ : ∃ j_ : Int, (wrap64 (a1 + 1)) = j_ := ⟨_, rfl⟩
    replace H : (if 0 ≤ (ji6) then (if (ji6) ≤ (t107.length : Int) then ((slices_Reverse_bool_bool.f k (t107.take ((ji6) : Int).toNat)).bind fun t113 => ((slices_Index_bool_bool.f k t113 true).bind fun t114 => (some (wrap64 (a1 - t114))))) else (none)) else (none)) = some r := by first | (rw [hji6] at H; exact H) | (simp only [hji6] at H ⊢; exact H)
    (try rw [hji6] at A3)
    (try rw [hji6] at A5)
    have hji6w : (IntKind.i64.wrap (a1 + 1)) = ji6 := (i64_w _).trans hji6
    by_cases c7 : 0 ≤ (ji6)
    · rw [if_pos c7] at H
      have c7b0 := eq_true c7
      have c7b1 : decide (0 ≤ (ji6)) = true := decide_eq_true c7
      clear c7
      by_cases c8 : (ji6) ≤ (t107.length : Int)
      · rw [if_pos c8] at H
        have c8b0 := eq_true c8
        have c8b1 : decide ((ji6) ≤ (t107.length : Int)) = true := decide_eq_true c8
        clear c8
        obtain ⟨y110, hy110⟩ : ∃ y_ : List Bool, y_ = (t107.take ((ji6) : Int).toNat) := ⟨_, rfl⟩
        replace H : ((slices_Reverse_bool_bool.f k y110).bind fun t113 => ((slices_Index_bool_bool.f k t113 true).bind fun t114 => (some (wrap64 (a1 - t114))))) = some r := by first | (rw [hy110]; with_reducible exact H) | (have H2_ := (Option.bind_some _ _).symm.trans H; rw [hy110]; with_reducible exact H2_) | (have H2_ := (Option.bind_some _ _).symm.trans H; with_reducible exact H2_) | with_reducible exact H | (rw [hy110]; exact H) | exact H
        have Ny110 := Aside0.mk hy110
        clear hy110
        replace H := Option.bind_eq_some_iff.mp H
        obtain ⟨t113, A90, H⟩ := H
        replace H : ((slices_Index_bool_bool.f k t113 true).bind fun t114 => (some (wrap64 (a1 - t114)))) = some r := H
        have A9 := Aside0.mk A90
        clear A90
        replace H := Option.bind_eq_some_iff.mp H
        obtain ⟨t114, A100, H⟩ := H
        replace H : (some (wrap64 (a1 - t114))) = some r := H
        have A10 := Aside0.mk A100
        clear A100
        obtain rfl := Option.some.inj H
        go_enter Try.func9, Try.ntmps9
        go_wp2_with (first | ((with_reducible refine gate_callee (f := 16) rfl ?_); refine goesL_ (some 8) rfl rfl Try.func16 (by kernel_rfl) rfl #[.slice A0 l0.length c0, .int .i64 a1] rfl (by (try simp only [List.map_toArray, List.map_cons, List.map_nil]); first | done | rfl | (simp only [List.length_drop, List.length_take]; rfl)) ?_; (with_reducible refine (seg_there.calls _ _ l0 a1 true _ ?side1 ?side2 A3.out).mono ?_); (case side1 => repeat (first | exact HR0.out | (with_reducible refine Kd.C_alloc ?_ _) | (with_reducible refine Kd.C_drewN ?_ _) | (with_reducible refine Kd.C_drew ?_))); (case side2 => exact HC0.out); rintro e w' ⟨rfl, ⟨nd, rfl⟩⟩; refine ⟨_, rfl, ?_⟩) | ((with_reducible refine gate_callee (f := 8) rfl ?_); refine goesL_ (some 12) rfl rfl Try.func8 (by kernel_rfl) rfl #[.slice A0 l0.length c0] rfl (by (try simp only [List.map_toArray, List.map_cons, List.map_nil]); first | done | rfl | (simp only [List.length_drop, List.length_take]; rfl)) ?_; (with_reducible refine (seg_Heads.calls _ _ l0 t107 _ ?side1 ?side2 A5.out).mono ?_); (case side1 => repeat (first | exact HR0.out | (with_reducible refine Kd.C_alloc ?_ _) | (with_reducible refine Kd.C_drewN ?_ _) | (with_reducible refine Kd.C_drew ?_))); (case side2 => exact HC0.out); rintro e w11 ⟨v108, rfl, ho0, hb⟩; refine ⟨_, rfl, ?_⟩; have n0_ := Aside0.mk (Kd.R_lower ho0 (below_size (by repeat (first | (with_reducible first | exact HB.out | apply below_alloc | apply pw_below_drewN | apply below_drew1) | exact HB.out)))); have n1_ := Aside0.mk (below_step (by repeat (first | (with_reducible first | exact HB.out | apply below_alloc | apply pw_below_drewN | apply below_drew1) | exact HB.out)) hb); clear HB; have HO109 := n0_; have HB := n1_; clear n0_ n1_; (try clear hb); (try clear hb2); (try clear hk); (try clear hi); (try clear ho0); obtain ⟨Ao12, co12, eo12⟩ := Kd.R_slice HO109.out; subst eo12; have q13 : ((ji6) : Int) ≤ ((t107.length : Int) : Int) := of_decide_eq_true (by first | (with_reducible assumption) | assumption); obtain ⟨i013, hi013, _, hsz13, _⟩ := info_parts info4; have hcut13 := cut_to (P := Try.prog) 27 4 .i64 Try.underlying27 hi013 Ao12 t107.length co12 (ji6) (of_decide_eq_true (by first | (with_reducible assumption) | assumption)) q13 (Kd.R_reads' HO109.out).2.1; have hr13 := Kd.R_take (m := ((ji6) : Int).toNat) HO109.out (by omega); have hy13 : y110.length = ((ji6) : Int).toNat := (by rw [Ny110.out, List.length_take]; omega); rw [← Ny110.out] at hr13; rw [← hy13] at hr13 hcut13; clear hy13 hi013 hsz13 HO109; have HO112 := Aside0.mk hr13; clear hr13; replace q13 := eq_true q13) | ((with_reducible refine gate_callee (f := 17) rfl ?_); refine goesL_ (some 17) rfl rfl Try.func17 (by kernel_rfl) rfl #[.slice Ao12 y110.length co12] rfl (by (try simp only [List.map_toArray, List.map_cons, List.map_nil]); first | done | rfl | (simp only [List.length_drop, List.length_take]; rfl)) ?_; (with_reducible refine (slices_Reverse_bool_bool.calls k (fun k_ => some k_ = (.slice Ao12 y110.length co12 : Value).ownBlock) (.slice Ao12 y110.length co12) y110 t113 w _ ?side1 ?side2 A9.out).mono ?_); (case side1 => repeat (first | (with_reducible first | exact HB.out | apply below_alloc | apply pw_below_drewN | apply below_drew1) | exact HB.out)); (case side2 => exact Kd.R_tight rfl HO112.out); rintro e w14 ⟨rfl, hy0, hb, hkp⟩; refine ⟨_, rfl, ?_⟩; have n0_ := Aside0.mk (Kd.R_reok rfl hy0 (fun k_ e_ => HO112.out.1 k_ e_)); have n1_ := Aside0.mk (hb); clear HO112; clear HB; have HO112 := n0_; have HB := n1_; clear n0_ n1_; (try clear hb); (try clear hkp); (try clear hy0)) | ((with_reducible refine gate_callee (f := 18) rfl ?_); refine goesL_ (some 20) rfl rfl Try.func18 (by kernel_rfl) rfl #[.slice Ao12 t113.length co12, .bool true] rfl (by (try simp only [List.map_toArray, List.map_cons, List.map_nil]); first | done | (rw [show t113.length = y110.length from (Kd.R_reads' HO112.out).1.symm] <;> rfl) | rfl | (simp only [List.length_drop, List.length_take]; rfl)) ?_; (with_reducible refine (slices_Index_bool_bool.calls k _ _ t113 true t114 _ ?side1 ?side2 A10.out).mono ?_); (case side1 => repeat (first | exact (Kd.R_reads' HO112.out).2.2 | (with_reducible refine Kd.C_alloc ?_ _) | (with_reducible refine Kd.C_drewN ?_ _) | (with_reducible refine Kd.C_drew ?_))); (case side2 => rw [show t113.length = y110.length from (Kd.R_reads' HO112.out).1.symm]; exact (Kd.R_reads' HO112.out).2.1); rintro e w' ⟨rfl, ⟨nd, rfl⟩⟩; refine ⟨_, rfl, ?_⟩))
        go_ret
        exact ⟨by first | rfl | (simp [errW_none, errW_some] <;> rfl) | (simp only [← hji6]; first | rfl | (simp [errW_none, errW_some] <;> rfl)) | (simp [*, errW_none, errW_some] <;> rfl), by repeat (first | (with_reducible first | exact HB.out | apply below_alloc | apply pw_below_drewN | apply below_drew1) | exact HB.out)⟩
      · rw [if_neg c8] at H
        exact absurd H (by simp)
    · rw [if_neg c7] at H
      exact absurd H (by simp)
  · replace c4 := Bool.eq_false_iff.mpr c4
    subst c4
    have H1 : (some a1) = some r := by rw [if_neg (show ¬ (false = true) by decide)] at H; exact H
    clear H
    have H := H1
    clear H1
    obtain rfl := Option.some.inj H
    go_enter Try.func9, Try.ntmps9
    go_wp2_with (first | ((with_reducible refine gate_callee (f := 16) rfl ?_); refine goesL_ (some 8) rfl rfl Try.func16 (by kernel_rfl) rfl #[.slice A0 l0.length c0, .int .i64 a1] rfl (by (try simp only [List.map_toArray, List.map_cons, List.map_nil]); first | done | rfl | (simp only [List.length_drop, List.length_take]; rfl)) ?_; (with_reducible refine (seg_there.calls _ _ l0 a1 false _ ?side1 ?side2 A3.out).mono ?_); (case side1 => repeat (first | exact HR0.out | (with_reducible refine Kd.C_alloc ?_ _) | (with_reducible refine Kd.C_drewN ?_ _) | (with_reducible refine Kd.C_drew ?_))); (case side2 => exact HC0.out); rintro e w' ⟨rfl, ⟨nd, rfl⟩⟩; refine ⟨_, rfl, ?_⟩))
    go_ret
    exact ⟨by first | rfl | (simp [errW_none, errW_some] <;> rfl) | (simp [*, errW_none, errW_some] <;> rfl), by repeat (first | (with_reducible first | exact HB.out | apply below_alloc | apply pw_below_drewN | apply below_drew1) | exact HB.out)⟩

end Go.Proofs.Ytpmhkfpmadcneaa.P
