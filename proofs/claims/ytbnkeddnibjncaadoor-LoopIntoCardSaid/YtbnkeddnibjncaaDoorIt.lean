import Derived.Test.YtbnkeddnibjncaaDoorProg
import Derived.Test.YtbnkeddnibjncaaDoorWMore
import Derived.RangeFuncNested
import Derived.RangeFuncBound
import Derived.RangeFuncCalls
import Derived.RangeFuncLeaves
import Derived.Shelf.Abstract
import Derived.Shelf.RegionOpen
import Derived.WalkKit
import Derived.OwnWalkIn
import Derived.TacticsInMore
import Derived.LoopNIn
import Derived.LoopIn
import Derived.Lib.TrailingZeros
import Derived.Laws.Bits64b
import Derived.Maps.AppendAt
namespace Go.Proofs.YtbnkeddnibjncaaDoor.It
set_option linter.unusedVariables false
open Go Go.RowKit Go.Shelf Go.Proofs.YtbnkeddnibjncaaDoorW.PrintWords
attribute [local go_sem] Oper.semAt_some
/-- The library's table lies in its variable. -/
def TabOk (w : World) : Prop := ∀ j, j < 64 → w.cell? ⟨0, j, none⟩ = some (.int .u8 (Lib.deBruijn64tab.getD j 0 : Nat))
theorem TabOk.keep {w w1 : World} (h : TabOk w) (hk : ∀ o : Obj, w.heap[0]? = some o → w1.heap[0]? = some o) : TabOk w1 := by
  intro j hj
  have h1 := h j hj
  unfold World.cell? at h1 ⊢
  cases ho : w.heap[0]? with
  | none => simp [ho] at h1
  | some o => rw [show w1.heap[(⟨0, j, none⟩ : Addr).block]? = some o from hk o ho]; rw [show w.heap[(⟨0, j, none⟩ : Addr).block]? = some o from ho] at h1; exact h1
theorem TabOk.below {w w1 : World} (h : TabOk w) (hb : Below w.heap.size w w1) : TabOk w1 := h.keep (fun o ho => blk_below ho hb)
theorem TabOk.lt {w : World} (h : TabOk w) : 0 < w.heap.size := by
  have h1 := h 0 (by decide)
  exact World.block_lt_of_cell? w _ h1
theorem u64_wrap (n : Int) : IntKind.u64.wrap n = n % 18446744073709551616 := by simp [IntKind.wrap, IntKind.signed, IntKind.bits]
theorem and_u64 (a b : Nat) (ha : a < 18446744073709551616) (hb : b < 18446744073709551616) : bits .and .u64 (a : Int) (b : Int) = ((a &&& b : Nat) : Int) := by
  have hx : a &&& b < 2 ^ 64 := Nat.and_lt_two_pow _ (by omega)
  have h1 : (BitVec.ofInt 64 (a : Int)).toNat = a := by
    rw [BitVec.ofInt_natCast, BitVec.toNat_ofNat]; exact Nat.mod_eq_of_lt (by omega)
  have h2 : (BitVec.ofInt 64 (b : Int)).toNat = b := by
    rw [BitVec.ofInt_natCast, BitVec.toNat_ofNat]; exact Nat.mod_eq_of_lt (by omega)
  show IntKind.u64.wrap ((BitVec.ofInt 64 (a : Int) &&& BitVec.ofInt 64 (b : Int)).toNat : Int) = _
  rw [BitVec.toNat_and, h1, h2, u64_wrap]
  omega
theorem tz_key (x a : Nat) (hx : x < 18446744073709551616) (hx0 : x ≠ 0) (hlow : x &&& (18446744073709551616 - x) = a) :
    IntKind.u64.wrap (bits BinOp.and IntKind.u64 (x : Int) (IntKind.u64.wrap (-(x : Int))) * 285870213051353865) / 288230376151711744 = ((a * 285870213051353865 % 18446744073709551616 / 288230376151711744 : Nat) : Int) := by
  have e1 : IntKind.u64.wrap (-(x : Int)) = ((18446744073709551616 - x : Nat) : Int) := by rw [u64_wrap]; omega
  rw [e1, and_u64 x _ hx (by omega), hlow, u64_wrap]
  omega
set_option maxHeartbeats 1000000 in
theorem tz_core (x k idx : Nat) (w : World) (hx0 : ((x : Int) == 0) = false)
    (key : IntKind.u64.wrap (bits BinOp.and IntKind.u64 (x : Int) (IntKind.u64.wrap (-(x : Int))) * 285870213051353865) / 288230376151711744 = (idx : Int))
    (hi : idx < 64) (hk : k < 64) (hcell : w.cell? ⟨0, idx, none⟩ = some (.int .u8 k)) :
    Calls Tryd.prog 45 #[.int .u64 x] w fun e w' => e = .returned (.int .i64 k) ∧ w' = w := by
  go_enter Tryd.func45, Tryd.ntmps45
  go_wp2_with (simp only [key])
  go_ret
  exact ⟨rfl, rfl⟩
theorem tz_any (x : Nat) (hx0 : x ≠ 0) (hx : x < 18446744073709551616) (w : World) (hT : TabOk w) :
    Calls Tryd.prog 45 #[.int .u64 x] w fun e w' => e = .returned (.int .i64 (Lib.ctz 64 x : Nat)) ∧ w' = w := by
  obtain ⟨hlow, hk⟩ := Lib.lowest_bit 64 x hx0 hx
  obtain ⟨hi, htab⟩ := Lib.deBruijn64_at _ hk
  have hcell := hT _ hi
  rw [htab] at hcell
  exact tz_core x _ _ w (by simp; omega) (tz_key x _ hx hx0 hlow) hi hk hcell
theorem each_any (s : Int) (w : World) : Calls Tryd.prog 40 #[.int .u64 s] w fun e w' => e = .returned (.func (.func 44) #[] #[.pointer (some ⟨w.heap.size, 0, none⟩)]) ∧ w' = w.alloc (.cells #[.int .u64 s] 33) := by
  go_enter Tryd.func40, Tryd.ntmps40
  go_wp2
  go_ret
  exact ⟨rfl, rfl⟩
def curS (W : World) (b : Nat) : Nat := match W.cell? ⟨b, 0, none⟩ with | some (.int _ s) => s.toNat | _ => 0
theorem curS_eq {W : World} {b s : Nat} (h : W.cell? ⟨b, 0, none⟩ = some (.int .u64 (s : Int))) : curS W b = s := by unfold curS; rw [h]; simp
theorem low_lt (s : Nat) (h : s ≠ 0) : s &&& (s - 1) < s := Nat.lt_of_le_of_lt Nat.and_le_right (by omega)
/-- What a caller promises the iterator; the box's block: b. J: between two rounds; J': behind a round that goes on. -/
structure Round (b l : Nat) (J J' : Nat → World → Prop) (Jx : World → Prop) : Prop where
  cur : ∀ s W, J s W → s < 18446744073709551616 ∧ W.cell? ⟨b, 0, none⟩ = some (.int .u64 (s : Int)) ∧ W.frozen? ⟨b, 0, none⟩ = false ∧ TabOk W
  cur' : ∀ s W, J' s W → s < 18446744073709551616 ∧ W.cell? ⟨b, 0, none⟩ = some (.int .u64 (s : Int)) ∧ W.frozen? ⟨b, 0, none⟩ = false
  step : ∀ s W, s ≠ 0 → J' s W → J (s &&& (s - 1)) (W.setCell ⟨b, 0, none⟩ (.int .u64 ((s &&& (s - 1) : Nat) : Int)))
  round : ∀ s W, s ≠ 0 → J s W → YieldAt Fence.wide 8 Tryd.prog l #[.int .i64 (Lib.ctz 64 s : Nat)] W fun e W' => (e = .returned (.bool true) ∧ J' s W') ∨ (e = .returned (.bool false) ∧ Jx W')
set_option maxRecDepth 100000 in
set_option maxHeartbeats 2000000 in
theorem each1_in (b l : Nat) (J J' : Nat → World → Prop) (Jx : World → Prop) (hR : Round b l J J' Jx) (s : Nat) (W : World) (h0 : J s W) :
    CallsIn Fence.wide 9 Tryd.prog 44 #[.func (.yield l) #[] #[], .pointer (some ⟨b, 0, none⟩)] W fun e W' => (∃ v, e = .returned v) ∧ (J 0 W' ∨ Jx W') := by
  refine callsIn_of_wp Tryd.func44 rfl trivial ?_ rfl
  simp only [Tryd.ntmps44, List.size_toArray, List.length_cons, List.length_nil, Nat.reduceAdd, Nat.reduceSub, Array.replicate_succ, Array.replicate_zero, List.push_toArray, List.append_toArray, List.nil_append, List.cons_append]
  gi_wp2
  gi_loopw [3] (fun _ wr => ∃ s, J s wr) (fun _ wr => curS wr b)
  case atStart => exact ⟨s, h0⟩
  case round =>
    obtain ⟨s, hs⟩ := hrel
    have hcur := hR.cur s wr hs
    obtain ⟨hlt, hc, hf, hT⟩ := hcur
    by_cases h0 : s = 0
    · subst h0
      gi_wp2
      go_end0
      exact ⟨⟨_, rfl⟩, .inl hs⟩
    · have ht := (callsIn_wide (n := 8)).2 (tz_any s h0 hlt wr hT)
      obtain ⟨fn, tmps, assign, body, hy, hRd⟩ := hR.round s wr h0 hs
      have hne : ((s : Int) != 0) = true := by simp; omega
      gi_wp2_with (refine ⟨trivial, ?_⟩; gi_at_call 45; refine ht.mono ?_; rintro e w' ⟨rfl, rfl⟩)
      clear ht
      refine hRd.mono ?_
      rintro e W3 (⟨rfl, hJ3⟩ | ⟨rfl, hJx3⟩)
      · obtain ⟨_, hc3, hf3⟩ := hR.cur' s W3 hJ3
        have hst := hR.step s W3 h0 hJ3
        have e1 : IntKind.u64.wrap ((s : Int) - 1) = ((s - 1 : Nat) : Int) := by rw [u64_wrap]; omega
        have e2 : bits .and .u64 (s : Int) ((s - 1 : Nat) : Int) = ((s &&& (s - 1) : Nat) : Int) := and_u64 s (s - 1) hlt (by omega)
        gi_wp2
        exact ⟨⟨_, hst⟩, by rw [curS_eq (World.cell?_setCell_same' _ _ _ (by rw [hc3]; rfl)), curS_eq hc]; exact low_lt s h0⟩
      · gi_wp2
        refine bodyPost_ret (results_none rfl _ _ _) rfl ?_
        exact ⟨⟨_, rfl⟩, .inr hJx3⟩

/-! ### A range over a set's numbers, in a function of one loop: the iterator keeps a box of its own (block b), which it writes between two rounds. -/
/-- How a round's body may be left. -/
def eachPost (B : Nat) (W : World) (I' : World → Prop) (Ix : Code → World → Prop) : Exit → Act → World → Prop
  | .normal, _, W' => KeepsFrom B W W' ∧ I' W'
  | .ret, _, W' => KeepsFrom B W W' ∧ Ix .ret W'
  | .exit id, _, W' => KeepsFrom B W W' ∧ Ix (.exit id) W'
  | .goto t, _, W' => KeepsFrom B W W' ∧ Ix (.goto t) W'
  | .panic _, _, _ => False
  | .outgrown, _, _ => False
set_option maxHeartbeats 1000000 in
theorem range_each {g : Operand} {p : Tmp} {assign body : Code} {Q : Exit → Act → World → Prop} {a : Act} {w : World} (b s0 : Nat)
    (hg : a.eval g = .func (.func 44) #[] #[.pointer (some ⟨b, 0, none⟩)])
    (I I' : Nat → World → Prop) (Ix : Code → World → Prop) (hI : OwnFrom w.heap.size I) (hI' : OwnFrom w.heap.size I') (hIx : OwnFrom w.heap.size Ix)
    (cur : ∀ s W, I s W → s < 18446744073709551616 ∧ W.cell? ⟨b, 0, none⟩ = some (.int .u64 (s : Int)) ∧ W.frozen? ⟨b, 0, none⟩ = false ∧ TabOk W)
    (cur' : ∀ s W, I' s W → s < 18446744073709551616 ∧ W.cell? ⟨b, 0, none⟩ = some (.int .u64 (s : Int)) ∧ W.frozen? ⟨b, 0, none⟩ = false)
    (step : ∀ s W, s ≠ 0 → I' s W → I (s &&& (s - 1)) (W.setCell ⟨b, 0, none⟩ (.int .u64 ((s &&& (s - 1) : Nat) : Int))))
    (h0 : I s0 w) (a₁ : Nat → Act)
    (hassign : ∀ (l x : Nat) (W : World) (K : Act → World → Prop), K (a₁ x) W →
      assign.wpIn (Fence.wide.inRound l) 8 Tryd.prog (Exit.then K (fun _ _ _ => False)) { tmps := a.tmps.setIfInBounds p (.int .i64 (x : Int)), defers := [] } W)
    (hbody : ∀ (l s : Nat) (W : World), s ≠ 0 → I s W → body.wpIn (Fence.wide.inRound l) 8 Tryd.prog (eachPost w.heap.size W (I' s) Ix) (a₁ (Lib.ctz 64 s)) W)
    (hdone : ∀ (D : Nat) (W : World), w.heap.size ≤ D → I 0 W → W.heap[D]? = some (.deferred (some [])) → Q .normal { a with defers := { target := .collected D, args := #[] } :: a.defers } W)
    (hstop : ∀ (D : Nat) (c : Code) (W : World), w.heap.size ≤ D → Ix c W → W.heap[D]? = some (.deferred (some [])) → c.wpIn Fence.wide 10 Tryd.prog Q { a with defers := { target := .collected D, args := #[] } :: a.defers } W) :
    (Code.rangeFunc g #[p] assign body).wpIn Fence.wide 10 Tryd.prog Q a w := by
  refine wpIn_rangeFunc (fun fn hfn => ?_)
  rw [show Fence.wide.round = none from rfl]
  have hblt : b < w.heap.size := World.block_lt_of_cell? w _ (cur _ _ h0).2.1
  obtain ⟨rec, hrec⟩ : ∃ rec : LoopState → Option Code → Loop, rec = fun st pe => { state := st, pending := pe, fn, tmps := a.tmps, params := #[p], assign, body, defers := w.heap.size } := ⟨_, rfl⟩
  obtain ⟨W1, hW1⟩ : ∃ W1, (w.alloc (.deferred (some []))).alloc (.loop (rec .ready none)) = W1 := ⟨_, rfl⟩
  have hL1 : W1.heap[w.heap.size + 1]? = some (.loop (rec .ready none)) := by
    have h := World.alloc_heap_new (w.alloc (.deferred (some []))) (.loop (rec .ready none))
    rw [World.size_alloc] at h
    rw [← hW1]
    exact h
  have hK1 : W1.heap[w.heap.size]? = some (.deferred (some [])) := by
    rw [← hW1]
    exact (Below.heap_alloc _ _ _ (by simp)).trans (World.alloc_heap_new w _)
  have hset : ∀ {k : Nat} {W : World} {v : Value} {o : Obj}, b ≠ k → W.heap[k]? = some o → (W.setCell ⟨b, 0, none⟩ v).heap[k]? = some o := fun hne h => (Below.heap_setCell _ _ _ _ (fun e => hne e.symm)).trans h
  refine ⟨w.heap.size + 1, [{ target := .collected w.heap.size, args := #[] }], W1, { target := .fn (.func 44) #[.pointer (some ⟨b, 0, none⟩)], args := #[.func (.yield (w.heap.size + 1)) #[] #[]] }, W1, 44,
    #[.func (.yield (w.heap.size + 1)) #[] #[], .pointer (some ⟨b, 0, none⟩)], W1, ?_, ?_, ?_, ?_, ?_, ?_⟩
  · rw [← hW1, hrec]
    exact run_enterLoop_outer _ _ _ _ _
  · simp only [resolve, hg]
    simp [go_sem]
  · intro f' _
    trivial
  · simp [invoke, go_sem]
  · intro h
    cases h
  · refine (each1_in b (w.heap.size + 1) (fun s W => I s W ∧ W.heap[w.heap.size + 1]? = some (.loop (rec .ready none)) ∧ W.heap[w.heap.size]? = some (.deferred (some [])))
      (fun s W => I' s W ∧ W.heap[w.heap.size + 1]? = some (.loop (rec .ready none)) ∧ W.heap[w.heap.size]? = some (.deferred (some [])))
      (fun W => ∃ c, Ix c W ∧ W.heap[w.heap.size + 1]? = some (.loop (rec .done (some c))) ∧ W.heap[w.heap.size]? = some (.deferred (some [])))
      ⟨fun s W h => cur s W h.1, fun s W h => cur' s W h.1, fun s W hs h => ⟨step s W hs h.1, hset (by omega) h.2.1, hset (by omega) h.2.2⟩, ?_⟩ s0 W1 ⟨by rw [← hW1]; exact hI.alloc _ (hI.alloc _ h0), hL1, hK1⟩).mono ?_
    · rintro s W hs ⟨hi, hl, hk⟩
      have hlt : w.heap.size + 1 < W.heap.size := (Array.getElem?_eq_some_iff.1 hl).1
      have hy := run_yield (P := Tryd.prog) (args := #[.int .i64 ((Lib.ctz 64 s : Nat) : Int)]) hl (by rw [hrec]; rfl)
      have hz : ∀ (t : Array Value) (v : Value), ((#[p] : Array Tmp).zip #[v]).foldl (fun tmps (t, a) => tmps.setIfInBounds t a) t = t.setIfInBounds p v := fun _ _ => by simp
      rw [hrec] at hy
      dsimp only at hy
      rw [hz] at hy
      refine ⟨fn, _, assign, body, hy, roundIn_of_wpIn hfn ?_⟩
      refine hassign _ (Lib.ctz 64 s) W _ ?_
      refine ⟨_, run_beginRound hl (by rw [hrec]), ?_⟩
      have hl2 : (W.putObj (w.heap.size + 1) (.loop { rec .ready none with state := .busy })).heap[w.heap.size + 1]? = some (.loop { rec .ready none with state := .busy }) := World.putObj_heap_same hlt
      have hk2 : (W.putObj (w.heap.size + 1) (.loop { rec .ready none with state := .busy })).heap[w.heap.size]? = some (.deferred (some [])) := (World.putObj_heap_other (by omega)).trans hk
      refine wpIn_mono (hbody _ s _ hs (hI.putObj _ hi (by omega) hl rfl)) ?_
      have fin : ∀ (jump : Option Code) (W3 : World), KeepsFrom w.heap.size (W.putObj (w.heap.size + 1) (.loop { rec .ready none with state := .busy })) W3 →
          (Instr.endRound (w.heap.size + 1) jump).run Tryd.prog W3 = .ok (.bool jump.isNone) (W3.putObj (w.heap.size + 1) (.loop (rec (if jump.isNone then .ready else .done) jump))) ∧
          W3.heap[w.heap.size + 1]? = some (.loop { rec .ready none with state := .busy }) ∧
          (W3.putObj (w.heap.size + 1) (.loop (rec (if jump.isNone then .ready else .done) jump))).heap[w.heap.size + 1]? = some (.loop (rec (if jump.isNone then .ready else .done) jump)) ∧
          (W3.putObj (w.heap.size + 1) (.loop (rec (if jump.isNone then .ready else .done) jump))).heap[w.heap.size]? = some (.deferred (some [])) := fun jump W3 hk3 => by
        have hl3 := hk3.same _ _ (by omega) hl2 rfl
        have hr := run_endRound (P := Tryd.prog) jump hl3
        rw [hrec] at hr hl3 ⊢
        exact ⟨hr, hl3, World.putObj_heap_same (Array.getElem?_eq_some_iff.1 hl3).1, (World.putObj_heap_other (by omega)).trans (hk3.same _ _ (Nat.le_refl _) hk2 rfl)⟩
      have out : ∀ (c : Code) (W3 : World), KeepsFrom w.heap.size (W.putObj (w.heap.size + 1) (.loop { rec .ready none with state := .busy })) W3 → Ix c W3 →
          ∃ v W4, (Instr.endRound (w.heap.size + 1) (some c)).run Tryd.prog W3 = .ok v W4 ∧ (v = .bool false ∧ ∃ c, Ix c W4 ∧ W4.heap[w.heap.size + 1]? = some (.loop (rec .done (some c))) ∧ W4.heap[w.heap.size]? = some (.deferred (some []))) := fun c W3 hk3 hi3 => by
        obtain ⟨hr, hl3, hl4, hk4⟩ := fin (some c) W3 hk3
        exact ⟨_, _, hr, rfl, c, hIx.putObj _ hi3 (by omega) hl3 rfl, hl4, hk4⟩
      rintro e a3 W3 hp
      cases e with
      | normal =>
        obtain ⟨hr, hl3, hl4, hk4⟩ := fin none W3 hp.1
        exact ⟨_, _, hr, .inl ⟨rfl, hI'.putObj _ hp.2 (by omega) hl3 rfl, hl4, hk4⟩⟩
      | ret => obtain ⟨v, W4, hr, rfl, h⟩ := out _ W3 hp.1 hp.2; exact ⟨_, _, hr, .inr ⟨rfl, h⟩⟩
      | exit id => obtain ⟨v, W4, hr, rfl, h⟩ := out _ W3 hp.1 hp.2; exact ⟨_, _, hr, .inr ⟨rfl, h⟩⟩
      | goto t => obtain ⟨v, W4, hr, rfl, h⟩ := out _ W3 hp.1 hp.2; exact ⟨_, _, hr, .inr ⟨rfl, h⟩⟩
      | panic ch => exact hp.elim
      | outgrown => exact hp.elim
    · rintro e W2 ⟨⟨v, rfl⟩, (⟨hi, hl, hk⟩ | ⟨c, hi, hl, hk⟩)⟩
      · exact ⟨none, _, by have := run_endLoop (P := Tryd.prog) hl (by rw [hrec]; simp); rw [hrec] at this; exact this, hdone _ _ (Nat.le_refl _) (hI.putObj _ hi (by omega) hl rfl) ((World.putObj_heap_other (by omega)).trans hk)⟩
      · exact ⟨some c, _, by have := run_endLoop (P := Tryd.prog) hl (by rw [hrec]; simp); rw [hrec] at this; exact this, hstop _ c _ (Nat.le_refl _) (hIx.putObj _ hi (by omega) hl rfl) ((World.putObj_heap_other (by omega)).trans hk)⟩
end Go.Proofs.YtbnkeddnibjncaaDoor.It
