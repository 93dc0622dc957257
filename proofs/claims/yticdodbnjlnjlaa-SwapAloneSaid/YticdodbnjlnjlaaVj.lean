import Derived.StillTailTactics
import Derived.Test.YticdodbnjlnjlaaVh
import Derived.Test.YticdodbnjlnjlaaVg
namespace Go.Proofs.Yticdodbnjlnjlaa.P
open Go.RowKit Go.Proofs.YticdodbnjlnjlaaW.PrintWords Go.Proofs.YticdodbnjlnjlaaW.PrintLast Go.Proofs.YticdodbnjlnjlaaW.PrintMore
attribute [local go_sem] max2_int min2_int max_two min_two max_three min_three max_four min_four
attribute [local irreducible] Calls
set_option linter.unusedVariables false
set_option linter.unusedSimpArgs false
/-! Run: what is known in the midst. -/
theorem info75 : (Try.prog.info? 75).map (fun i => (i.zero, i.size, i.bytes)) = some (some (.agg zE), 6, 48) := by kernel_rfl
theorem size47 : (Try.prog.info? 47).map (·.size) = some 4 := by kernel_rfl
abbrev rCells (vO : Value) (s : Int) (vP vT : Value) : Array Value := #[vO, .int .u8 s, vP, vT]
abbrev zR : Array Value := #[.slice none 0 0, .int .u8 0, .slice none 0 0, .slice none 0 0]
def NE (g : Nat → Value) (v : Value) : Prop := ∀ j k, (g j).ownBlock = some k → v.ownBlock ≠ some k
theorem WF.move {w w1 : World} {lo : Nat} {g f : Nat → Value} {ls : Nat → List Int} {vR vQ : Value} {nc : Nat} (h : WF w lo g f ls vR vQ nc) (hm : ∀ j k, (g j).ownBlock = some k → k < w.heap.size → w1.heap[k]? = w.heap[k]?) (ho : ∀ (k : Nat) (cs : Array Value), w.heap[k]? = some (.cells cs 23 (0, 0)) → w1.heap[k]? = w.heap[k]?) : WF w1 lo g f ls vR vQ nc := by
  obtain ⟨x, hr, e2⟩ := h.r
  obtain ⟨qs, hq, el, eq⟩ := h.q
  have hout : ∀ {v : Value} {qs : List (Option Addr × Nat × Nat)}, Outer w lo v qs → Outer w1 lo v qs := fun {v qs} hv => Kd.R_step hv (fun k hk _ => by
    obtain ⟨c1, h1⟩ := own_block hv hk
    exact ho k c1 h1)
  exact ⟨h.ms.move hm, ⟨x, hout hr, e2⟩, ⟨qs, hout hq, el, eq⟩, h.ne⟩
theorem WF.grownRow {w w1 : World} {lo lo' : Nat} {g f : Nat → Value} {ls : Nat → List Int} {vR vQ v : Value} {nc : Nat} {l : List Int} (h : WF w lo g f ls vR vQ nc) (hv : Row w lo' v l) (hn : NE g v) (hg : w.grownBy w1 v.ownBlock) : WF w1 lo g f ls vR vQ nc :=
  h.move (fun j k hk hl => hg.block k hl (fun c => hn j k hk c.symm)) (fun k cs hk => hg.block k (blk_lt hk) (fun c => by
    obtain ⟨c2, h2⟩ := own_block hv c.symm
    exact blk_ne hk h2 (by decide) rfl))
theorem own75 {w : World} {lo : Nat} {ok : Nat → Prop} {v : Value} {xs : List S75} (h : Kd.R k75 75 w lo ok v xs) {k : Nat} (hk : v.ownBlock = some k) : ∃ cur, w.heap[k]? = some (.cells cur 75 (0, 0)) := by
  obtain ⟨inner, ho⟩ := Kd.R_own h
  exact own_typed ho k hk
theorem WF.grownT {w w1 : World} {lo lo' : Nat} {g f : Nat → Value} {ls : Nat → List Int} {vR vQ v : Value} {nc : Nat} {xs : List S75} {ok : Nat → Prop} (h : WF w lo g f ls vR vQ nc) (hv : Kd.R k75 75 w lo' ok v xs) (hg : w.grownBy w1 v.ownBlock) : WF w1 lo g f ls vR vQ nc :=
  h.move (fun j k hk hl => hg.block k hl (fun c => by
    obtain ⟨c1, h1⟩ := own_block (h.ms.row j) hk
    obtain ⟨c2, h2⟩ := own75 hv c.symm
    exact blk_ne h1 h2 (by decide) rfl)) (fun k cs hk => hg.block k (blk_lt hk) (fun c => by
    obtain ⟨c2, h2⟩ := own75 hv c.symm
    exact blk_ne hk h2 (by decide) rfl))
theorem R_own75 {w : World} {lo : Nat} {ok : Nat → Prop} {v : Value} {xs : List S75} (h : Kd.R k75 75 w lo ok v xs) : Kd.R k75 75 w lo (fun k => v.ownBlock = some k) v xs := by
  obtain ⟨h0, inner, ho, hr⟩ := h
  exact ⟨fun _ hk => hk, inner, ho, hr.imp_ (fun x cs hm => (k75_openM hm) ▸ k75_mkM w lo _ x)⟩
theorem Row.far {w : World} {lo : Nat} {v : Value} {l : List Int} (h : Row w lo v l) {g t : Nat} {cells : Array Value} (hb : w.heap[g]? = some (.cells cells t (0, 0))) (ht : 3 ≠ t) (i : Nat) (u : Value) : Row (w.setCell ⟨g, i, none⟩ u) lo v l :=
  Kd.R_step h (fun k hk _ => Below.heap_setCell w ⟨g, i, none⟩ u k (by obtain ⟨c1, h1⟩ := own_block h hk; exact blk_ne h1 hb ht))
theorem Row.farRow {w : World} {lo : Nat} {v : Value} {l : List Int} (h : Row w lo v l) {g t : Nat} {cells : Array Value} (hb : w.heap[g]? = some (.cells cells t (0, 0))) (ht : 3 ≠ t) (cs : Array Value) : Row (w.setRow g cs) lo v l :=
  Kd.R_step h (fun k hk _ => setRow_other w g k cs (by obtain ⟨c1, h1⟩ := own_block h hk; exact blk_ne h1 hb ht))
abbrev Trc (w : World) (lo : Nat) (v : Value) (xs : List S75) : Prop := Kd.R k75 75 w lo (fun k => v.ownBlock = some k) v xs
theorem Trc.far {w : World} {lo : Nat} {v : Value} {l : List S75} (h : Trc w lo v l) {g t : Nat} {cells : Array Value} (hb : w.heap[g]? = some (.cells cells t (0, 0))) (ht : 75 ≠ t) (i : Nat) (u : Value) : Trc (w.setCell ⟨g, i, none⟩ u) lo v l :=
  Kd.R_step h (fun k hk _ => Below.heap_setCell w ⟨g, i, none⟩ u k (by obtain ⟨c1, h1⟩ := own75 h hk; exact blk_ne h1 hb ht))
theorem Trc.farB {w : World} {lo : Nat} {v : Value} {l : List S75} (h : Trc w lo v l) {g : Nat} (hn : v.ownBlock ≠ some g) (cs : Array Value) : Trc (w.setRow g cs) lo v l :=
  Kd.R_step h (fun k hk _ => setRow_other w g k cs (fun e => hn (by rw [← e]; exact hk)))
structure RN (w0 W : World) (P : PV) (nc b4 b6 b8 i j : Nat) (s : (Nat → List Int) × Int) (vP vT : Value) : Prop where
  st : ∃ lo g f lsO vR vQ, Box W b6 P f vR vQ s.2 ∧ WF W lo g f lsO vR vQ nc ∧ Seen g f lsO s.1 ∧ NE g vP ∧ w0.heap.size ≤ lo
  x8 : W.heap[b8]? = some (.cells (rCells (.slice none 0 0) 0 vP vT) 47 (0, 0))
  x4 : W.heap[b4]? = some (.cells zR 47 (0, 0))
  p : Row W w0.heap.size vP (List.replicate i 0)
  t : ∃ evs : List S75, Trc W w0.heap.size vT evs ∧ evs.length = j ∧ ∀ e ∈ evs, e.f0 = 0
  be : Below w0.heap.size w0 W
  l4 : w0.heap.size ≤ b4
  l6 : w0.heap.size ≤ b6
  l8 : w0.heap.size ≤ b8
  n48 : b4 ≠ b8
theorem RN.below {w0 W W1 : World} {P : PV} {nc b4 b6 b8 i j : Nat} {s : (Nat → List Int) × Int} {vP vT : Value} (h : RN w0 W P nc b4 b6 b8 i j s vP vT) (hb : Below W.heap.size W W1) : RN w0 W1 P nc b4 b6 b8 i j s vP vT := by
  obtain ⟨lo, g, f, lsO, vR, vQ, h1, h2, h3, h4, h5⟩ := h.st
  obtain ⟨evs, t1, t2, t3⟩ := h.t
  exact ⟨⟨lo, g, f, lsO, vR, vQ, blk_below h1 hb, h2.below hb, h3, h4, h5⟩, blk_below h.x8 hb, blk_below h.x4 hb, Kd.R_below h.p hb, ⟨evs, Kd.R_below t1 hb, t2, t3⟩, below_step h.be hb, h.l4, h.l6, h.l8, h.n48⟩
/-- What a call of Step leaves, in any later world. -/
def JC (nc B : Nat) (P : PV) (s : (Nat → List Int) × Int) (v v1 v2 : Value) (w : World) : Prop := ∃ lo g f lsO vR vQ ev, v = .tuple #[.agg (sCells P f vR vQ s.2), .agg (eCells ev), .bool true] ∧ v1 = .agg (sCells P f vR vQ s.2) ∧ v2 = .agg (eCells ev) ∧ ev.t = 0 ∧ WF w lo g f lsO vR vQ nc ∧ Seen g f lsO s.1 ∧ B ≤ lo
def JB (B t : Nat) (z : Array Value) (v : Value) (w : World) : Prop := ∃ b, v = .pointer (some ⟨b, 0, none⟩) ∧ w.heap[b]? = some (.cells z t (0, 0)) ∧ B ≤ b
theorem JC.below {nc B : Nat} {P : PV} {s : (Nat → List Int) × Int} {v v1 v2 : Value} {w w1 : World} (h : JC nc B P s v v1 v2 w) (hb : Below w.heap.size w w1) : JC nc B P s v v1 v2 w1 := by
  obtain ⟨lo, g, f, lsO, vR, vQ, ev, e, e1, e2, h1, h2, h3, h4⟩ := h
  exact ⟨lo, g, f, lsO, vR, vQ, ev, e, e1, e2, h1, h2.below hb, h3, h4⟩
theorem JB.below {B t : Nat} {z : Array Value} {v : Value} {w w1 : World} (h : JB B t z v w) (hb : Below w.heap.size w w1) : JB B t z v w1 := by
  obtain ⟨b, e, h1, h2⟩ := h
  exact ⟨b, e, blk_below h1 hb, h2⟩
def evS (e : EvV) : S75 := ⟨e.t, e.p, e.o, e.b, e.v, e.m⟩
theorem NE.fresh {w : World} {lo lo' : Nat} {g f : Nat → Value} {ls : Nat → List Int} {vR vQ v : Value} {nc : Nat} {w1 : World} {l : List Int} (h : WF w1 lo g f ls vR vQ nc) (hl : w.heap.size ≤ lo) (hv : Row w lo' v l) : NE g v := fun j k hk hk2 => by
  have h1 := Kd.R_base (h.ms.row j) k hk
  obtain ⟨c2, h2⟩ := own_block hv hk2
  have := blk_lt h2
  omega
theorem NE.grow {w : World} {lo : Nat} {g f : Nat → Value} {ls : Nat → List Int} {vR vQ v vn : Value} {nc : Nat} (h : WF w lo g f ls vR vQ nc) (hn : NE g v) (hat : vn.ownBlock = v.ownBlock ∨ ∃ b, vn.ownBlock = some b ∧ w.heap.size ≤ b) : NE g vn := fun j k hk hk2 => by
  rcases hat with e | ⟨b, e, hb⟩
  · rw [e] at hk2; exact hn j k hk hk2
  · rw [e] at hk2
    injection hk2 with hk2
    obtain ⟨c1, h1⟩ := own_block (h.ms.row j) hk
    have := blk_lt h1
    omega
theorem RN.mid {w0 wj W : World} {P : PV} {nc b4 b6 b8 b10 b11 i j lo : Nat} {s s' : (Nat → List Int) × Int} {vP vT vR vQ : Value} {g f : Nat → Value} {lsO : Nat → List Int} {ev : EvV} (h : RN w0 wj P nc b4 b6 b8 i j s vP vT) (hn : vT.ownBlock ≠ some b11) (hwf : WF wj lo g f lsO vR vQ nc) (hse : Seen g f lsO s'.1) (hne : NE g vP) (x10 : wj.heap[b10]? = some (.cells zCells 70 (0, 0))) (x11 : wj.heap[b11]? = some (.cells zE 75 (0, 0))) (g10 : w0.heap.size ≤ b10) (g11 : w0.heap.size ≤ b11) (n6 : b6 ≠ b10) (hlo : w0.heap.size ≤ lo)
    (hw : W = ((wj.setRow b10 (sCells P f vR vQ s'.2)).setRow b11 (eCells ev)).setRow b6 (sCells P f vR vQ s'.2)) :
    RN w0 W P nc b4 b6 b8 i j s' vP vT ∧ W.heap[b11]? = some (.cells (eCells ev) 75 (0, 0)) := by
  obtain ⟨lo1, g1, f1, lsO1, vR1, vQ1, h1, h2, h3, h4, h5⟩ := h.st
  obtain ⟨evs, t1, t2, t3⟩ := h.t
  have n1011 : b10 ≠ b11 := blk_ne x10 x11 (by decide)
  have a11 := (setRow_other wj b10 b11 (sCells P f vR vQ s'.2) (Ne.symm n1011)).trans x11
  have a6 := (setRow_other wj b10 b6 (sCells P f vR vQ s'.2) n6).trans h1
  have b6' := (setRow_other (wj.setRow b10 (sCells P f vR vQ s'.2)) b11 b6 (eCells ev) (blk_ne h1 x11 (by decide))).trans a6
  have b11' := setRow_heap (wj.setRow b10 (sCells P f vR vQ s'.2)) b11 _ (eCells ev) 75 (0, 0) a11
  have key : ∀ (k : Nat) (cs : Array Value) (t : TypeId), wj.heap[k]? = some (.cells cs t (0, 0)) → t ≠ 70 → t ≠ 75 → W.heap[k]? = some (.cells cs t (0, 0)) := fun k cs t hk e1 e2 => by
    rw [hw, setRow_other _ _ _ _ (blk_ne hk h1 e1), setRow_other _ _ _ _ (blk_ne hk x11 e2), setRow_other _ _ _ _ (blk_ne hk x10 e1)]
    exact hk
  refine ⟨⟨⟨lo, g, f, lsO, vR, vQ, ?_, ?_, hse, hne, hlo⟩, key _ _ _ h.x8 (by decide) (by decide), key _ _ _ h.x4 (by decide) (by decide), ?_, ⟨evs, ?_, t2, t3⟩, ?_, h.l4, h.l6, h.l8, h.n48⟩, ?_⟩
  · rw [hw]; exact setRow_heap _ _ _ _ _ _ b6'
  · rw [hw]
    exact ((hwf.farRow x10 (by decide) (by decide) _).farRow a11 (by decide) (by decide) _).farRow b6' (by decide) (by decide) _
  · rw [hw]
    exact ((h.p.farRow x10 (by decide) _).farRow a11 (by decide) _).farRow b6' (by decide) _
  · refine Kd.R_step t1 (fun k hk hl => ?_)
    obtain ⟨c1, hc⟩ := own75 t1 hk
    rw [hw, setRow_other _ _ _ _ (blk_ne hc h1 (by decide)), setRow_other _ _ _ _ (fun e => hn (by rw [← e]; exact hk)), setRow_other _ _ _ _ (blk_ne hc x10 (by decide))]
  · rw [hw]
    exact below_rowS (below_rowS (below_rowS h.be g10) g11) h.l6
  · rw [hw, setRow_other _ _ _ _ (Ne.symm (blk_ne h1 x11 (by decide)))]
    exact b11'
theorem RN.picks {w0 W w4 : World} {P : PV} {nc b4 b6 b8 i j : Nat} {s : (Nat → List Int) × Int} {vP vT vn : Value} {ok : Nat → Prop} (h : RN w0 W P nc b4 b6 b8 i j s vP vT) (hr : Kd.R (Kd.int .i64) 3 w4 w0.heap.size ok vn (List.replicate i 0 ++ [0])) (hg : W.grownBy w4 vP.ownBlock) (hat : vn.ownBlock = vP.ownBlock ∨ ∃ b, vn.ownBlock = some b ∧ W.heap.size ≤ b) :
    RN w0 (w4.setCell ⟨b8, 2, none⟩ vn) P nc b4 b6 b8 (i + 1) j s vn vT ∧ ∀ (k t : Nat) (cs : Array Value), W.heap[k]? = some (.cells cs t (0, 0)) → t ≠ 3 → t ≠ 47 → (w4.setCell ⟨b8, 2, none⟩ vn).heap[k]? = some (.cells cs t (0, 0)) := by
  obtain ⟨lo1, g1, f1, lsO1, vR1, vQ1, h1, h2, h3, h4, h5⟩ := h.st
  obtain ⟨evs, t1, t2, t3⟩ := h.t
  have kp : ∀ (k t : Nat) (cs : Array Value), W.heap[k]? = some (.cells cs t (0, 0)) → t ≠ 3 → w4.heap[k]? = some (.cells cs t (0, 0)) := fun k t cs hk ht => blk_grown hk hg (fun e => by
    obtain ⟨c2, h5⟩ := own_block h.p e.symm
    exact blk_ne hk h5 ht rfl)
  have x8 := kp _ _ _ h.x8 (by decide)
  have key : ∀ (k t : Nat) (cs : Array Value), W.heap[k]? = some (.cells cs t (0, 0)) → t ≠ 3 → t ≠ 47 → (w4.setCell ⟨b8, 2, none⟩ vn).heap[k]? = some (.cells cs t (0, 0)) := fun k t cs hk ht ht2 => blk_far (kp k t cs hk ht) (blk_ne (kp k t cs hk ht) x8 ht2) _
  have hsz : w0.heap.size ≤ W.heap.size := below_size h.be
  refine ⟨⟨⟨lo1, g1, f1, lsO1, vR1, vQ1, key _ _ _ h1 (by decide) (by decide), (h2.grownRow h.p h4 hg).far x8 (by decide) (by decide) 2 vn, h3, NE.grow h2 h4 hat, h5⟩, blk_put x8 2 vn rfl, blk_far (kp _ _ _ h.x4 (by decide)) h.n48 _, ?_, ⟨evs, ?_, t2, t3⟩, (h.be.grown hg hsz (fun k hk => Kd.R_base h.p k hk)).setCell h.l8 _, h.l4, h.l6, h.l8, h.n48⟩, key⟩
  · have := Row.far (R_self hr) x8 (by decide) 2 vn
    rw [List.replicate_succ']
    exact this
  · have : Trc w4 w0.heap.size vT evs := Kd.R_grown t1 hg (fun k hk c => by
      obtain ⟨c1, h5⟩ := own75 t1 hk
      obtain ⟨c2, h6⟩ := own_block h.p c.symm
      exact blk_ne h5 h6 (by decide) rfl)
    exact this.far x8 (by decide) 2 vn
theorem RN.trace {w0 W w4 : World} {P : PV} {nc b4 b6 b8 i j : Nat} {s : (Nat → List Int) × Int} {vP vT vn : Value} {ok : Nat → Prop} {evs : List S75} {x : S75} (h : RN w0 W P nc b4 b6 b8 i j s vP vT) (ht1 : Trc W w0.heap.size vT evs) (ht2 : evs.length = j) (ht3 : ∀ e ∈ evs, e.f0 = 0) (hx : x.f0 = 0) (hr : Kd.R k75 75 w4 w0.heap.size ok vn (evs ++ [x])) (hg : W.grownBy w4 vT.ownBlock) :
    RN w0 (w4.setCell ⟨b8, 3, none⟩ vn) P nc b4 b6 b8 i (j + 1) s vP vn := by
  obtain ⟨lo1, g1, f1, lsO1, vR1, vQ1, h1, h2, h3, h4, h5⟩ := h.st
  have kp : ∀ (k t : Nat) (cs : Array Value), W.heap[k]? = some (.cells cs t (0, 0)) → t ≠ 75 → w4.heap[k]? = some (.cells cs t (0, 0)) := fun k t cs hk ht => blk_grown hk hg (fun e => by
    obtain ⟨c2, h5⟩ := own75 ht1 e.symm
    exact blk_ne hk h5 ht rfl)
  have x8 := kp _ _ _ h.x8 (by decide)
  have hsz : w0.heap.size ≤ W.heap.size := below_size h.be
  refine ⟨⟨lo1, g1, f1, lsO1, vR1, vQ1, blk_far (kp _ _ _ h1 (by decide)) (blk_ne h1 h.x8 (by decide)) _, (h2.grownT ht1 hg).far x8 (by decide) (by decide) 3 vn, h3, h4, h5⟩, blk_put x8 3 vn rfl, blk_far (kp _ _ _ h.x4 (by decide)) h.n48 _, ?_, ⟨evs ++ [x], Trc.far (R_own75 hr) x8 (by decide) 3 vn, by rw [List.length_append, ht2]; rfl, fun e he => ?_⟩, (h.be.grown hg hsz (fun k hk => Kd.R_base ht1 k hk)).setCell h.l8 _, h.l4, h.l6, h.l8, h.n48⟩
  · have : Row w4 w0.heap.size vP (List.replicate i 0) := Kd.R_grown h.p hg (fun k hk c => by
      obtain ⟨c1, h5⟩ := own_block h.p hk
      obtain ⟨c2, h6⟩ := own75 ht1 c.symm
      exact blk_ne h5 h6 (by decide) rfl)
    exact this.far x8 (by decide) 3 vn
  · rcases List.mem_append.1 he with h5 | h5
    · exact ht3 e h5
    · rw [List.mem_singleton.1 h5]; exact hx
theorem exec_bs75 {o : Oper} {ev : Operand → Value} {w : World} (x : Operand) (ho : o.op = .buildSlice 45 1 #[(0, x)]) (e : EvV) (hx : ev x = .agg (eCells e)) : (execOp ev o).run Try.prog w = .ok (.value (.slice (some ⟨w.heap.size, 0, none⟩) 1 1)) (w.alloc (.cells (eCells e) 75)) := by
  unfold execOp
  simp only [ho]
  obtain ⟨t, p, q, r, s, u⟩ := e
  simp only [eCells] at hx ⊢
  simp only [List.map_toArray, List.map_cons, List.map_nil, hx]
  go_simp
def FRS (B : Nat) (v : Value) : Prop := ∀ A n c, v = .slice (some A) n c → B ≤ A.block
theorem FRS.of {B : Nat} {v : Value} (h : ∀ k, v.ownBlock = some k → B ≤ k) : FRS B v := fun A n c e => h A.block (by rw [e]; rfl)
theorem cell_row {w : World} {g : Nat} {cs : Array Value} {a : Addr} (h : a.block ≠ g) : (w.setRow g cs).cell? a = w.cell? a := World.cell?_of_block (w := w) (setRow_other w g a.block cs h)
theorem C_row {α : Type} {enc : α → Value} {h1 : ∀ x, (enc x).oneCell' = true} {w : World} {g n : Nat} {cs : Array Value} {A : Option Addr} {xs : List α} (d : α) (h : (Kd.scalar enc h1).C w A n xs) (hf : ∀ a, A = some a → a.block ≠ g) : (Kd.scalar enc h1).C (w.setRow g cs) A n xs := by
  have hr := Kd.reads_of_C (d := d) h
  refine Kd.C_of_reads (d := d) ⟨hr.1, hr.2.1, fun hn => ?_⟩
  obtain ⟨ad, e, hc⟩ := hr.2.2 hn
  refine ⟨ad, e, fun j hj => ?_⟩
  rw [cell_row (by have := hf ad e; unfold Addr.add; split <;> exact this)]
  exact hc j hj
theorem IS.row {w : World} {g : Nat} {cs : Array Value} {v : Value} {l : List Int} (h : IS w v l) (hf : FRS (g + 1) v) : IS (w.setRow g cs) v l := by
  obtain ⟨A, c, e, h1, h2⟩ := h
  exact ⟨A, c, e, h1, C_row (0 : Int) h2 (fun a ea => by subst ea; have := hf a _ _ e; omega)⟩
theorem C75_row {w : World} {g n : Nat} {cs : Array Value} {A : Option Addr} {xs : List S75} (h : Kd.C k75 w A n xs) (hf : ∀ a, A = some a → a.block ≠ g) : Kd.C k75 (w.setRow g cs) A n xs := by
  refine ⟨h.1, h.2.1, fun hn => ?_⟩
  obtain ⟨ad, e, hc⟩ := h.2.2 hn
  refine ⟨ad, e, fun j x hj => ?_⟩
  obtain ⟨c, hl, hk, hcc⟩ := hc j x hj
  refine ⟨c, hl, (k75_open hk) ▸ k75_mk _ x, fun q u hq => ?_⟩
  rw [cell_row (by have := hf ad e; unfold Addr.add; split <;> exact this)]
  exact hcc q u hq
theorem runT10 : rtab .any (opsOf Try.f41 10) = (true, [([], []), ([], []), ([], []), ([1, 2], [1, 2]), ([3], [3]), ([0, 4], [0, 4]), ([5], [5]), ([6], [6]), ([6], [6]), ([6], [6]), ([], []), ([], []), ([10, 7, 5, 0, 1, 2, 3, 4, 5, 6, 7, 10, 11], [7, 10]), ([11, 8, 12, 0, 1, 2, 3, 4, 5, 6, 7, 8, 10, 11, 12], [8, 11]), ([9, 13, 0, 1, 2, 3, 4, 5, 6, 7, 8, 9, 10, 11, 12, 13], [9])]) := by kernel_rfl
theorem runT13 : rtab .any (opsOf Try.f41 13) = (true, [([], []), ([0], [0]), ([], []), ([], []), ([2, 3], [2, 3]), ([4], [4]), ([5], [5]), ([1, 6], [1, 6]), ([0, 1, 2, 3, 4, 5, 6, 7], []), ([8, 7, 7, 0, 1, 2, 3, 4, 5, 6, 7], [7, 8])]) := by kernel_rfl
theorem rOne (vO vP vT : Value) (s : Int) (h0 : vO.oneCell' = true) (h2 : vP.oneCell' = true) (h3 : vT.oneCell' = true) : (rCells vO s vP vT).all (·.oneCell') = true := by
  have hi : ∀ k n, (Value.int k n).oneCell' = true := fun _ _ => rfl
  simp [rCells, hi, h0, h2, h3]
set_option maxHeartbeats 16000000 in
set_option maxRecDepth 100000 in
theorem run_any (P : PV) (code : List S33) (pc : List Int) (nc : Nat) (w : World) (hP : PF w P code pc) (hnc : pc.length = nc) (hl : Lim P nc) (hS : SOUND P w) (hG : GS nc code pc (ls0 P nc) 8) (m : Nat) (hm : m ≤ 200) (vS : Value) (hv : IS w vS (List.replicate m 0)) (hcan : ∀ i, i < m → canF code pc (itS code (ls0 P nc, 0) i).1 (itS code (ls0 P nc, 0) i).2 = true) :
    Calls Try.prog 41 #[.agg (pCells P), vS] w (fun e w' => ∃ vO vP vT evs, e = .returned (.tuple #[.agg (rCells vO (statusF code pc (itS code (ls0 P nc, 0) m).1 (itS code (ls0 P nc, 0) m).2) vP vT), .int .i64 0]) ∧ IS w' vO ((itS code (ls0 P nc, 0) m).1 11) ∧ IS w' vP (List.replicate m 0) ∧ (∃ A c, vT = .slice A m c ∧ m ≤ c ∧ Kd.C k75 w' A m evs) ∧ (∀ e ∈ evs, e.f0 = 0) ∧ (FRS w.heap.size vO ∧ FRS w.heap.size vP ∧ FRS w.heap.size vT) ∧ Below w.heap.size w w') := by
  have hC : P.vC.oneCell' = true := hP.c.one
  have hT : P.vT.oneCell' = true := by obtain ⟨_, _, _, _, e, _⟩ := hP.t; rw [e]; rfl
  have HP := am hP
  have HNC := am hl.c
  have HL := am hl
  have HSO := am hS
  have HG := am hG
  have HM := am hm
  have HCANS := am hcan
  have HC := am hC
  have HT := am hT
  have HPC := am hnc
  have HV := am hv
  obtain ⟨AS, cS, eS, _, hCS⟩ := hv
  rw [List.length_replicate] at eS hCS
  subst eS
  have HCS := am hCS
  have hm2 := eq_false (show ¬ (2000 : Int) < (m : Int) by omega)
  clear hP hl hS hG hm hcan hC hT hnc hCS
  go_enter Try.func41, Try.ntmps41
  go_upto_region 7 with (first | ((with_reducible refine gd 2 ?_); refine bx 2 (pCells P) 26 ?_; intro b2 qg W qx qb; have HX2 := am qx; have HB := am qb; clear qg qx qb) | ((with_reducible refine gd 4 ?_); refine bx 4 (zR) 47 ?_; intro b4 qg W qx qb; have H4 := am qx; have HG4 := am (Nat.le_trans (below_size HB.out) (Nat.le_of_eq qg.symm)); replace HX2 := am (blk_below HX2.out qb); replace HB := am (below_step HB.out qb); clear qg qx qb) | ((with_reducible refine gd 14 ?_); refine wpList_load_row rfl 26 (.tmp 2) rfl b2 rfl 26 (pCells P) (0, 0) _ HX2.out Try.underlying26 rfl size26 ?_) | (go_at_call 38; refine (new_any P code pc nc _ (HP.out.below HB.out) HPC.out HL.out (fun w' hb' => HSO.out w' (below_step HB.out hb'))).mono ?_; rintro e W ⟨g, vR, vQ, rfl, hws, hb⟩; have HB0 := HB.out; replace H4 := am (blk_below H4.out hb); replace HB := am (below_step HB.out hb); have HLO0 := am (show w.heap.size ≤ _ from below_size HB0); have HWS := am hws.wf; clear hws hb HX2 HB0) | ((with_reducible refine gd 6 ?_); refine bx 6 (zCells) 70 ?_; intro b6 qg W qx qb; have H6 := am qx; have HG6 := am (Nat.le_trans (below_size HB.out) (Nat.le_of_eq qg.symm)); replace H4 := am (blk_below H4.out qb); replace HWS := am (HWS.out.below qb); replace HB := am (below_step HB.out qb); clear qg qx qb) | ((with_reducible refine gs 70 6 ?_); refine store_row_event rfl 70 (.tmp 6) (.tmp 16) rfl b6 (sCells P g vR vQ 0) rfl rfl 70 _ H6.out size70 rfl (sOne 0 (HWS.out.rs (Seen.refl _ _)) HC.out HT.out) rfl ?_; intro W hw; have HX6 := am (show Box W b6 P g vR vQ 0 by rw [hw]; exact setRow_heap _ _ _ _ _ _ H6.out); replace H4 := am (show W.heap[b4]? = some (.cells zR 47 (0, 0)) by rw [hw]; exact (setRow_other _ _ _ _ (blk_ne H4.out H6.out (by decide))).trans H4.out); replace HWS := am (show WF W _ g g (ls0 P nc) vR vQ nc by rw [hw]; exact HWS.out.farRow H6.out (by decide) (by decide) _); replace HB := am (show Below w.heap.size w W by rw [hw]; exact below_rowS HB.out HG6.out); clear hw H6) | ((with_reducible refine gd 8 ?_); refine bx 8 (zR) 47 ?_; intro b8 qg W qx qb; have H8 := am qx; have HG8 := am (Nat.le_trans (below_size HB.out) (Nat.le_of_eq qg.symm)); have HN48 := am (Nat.ne_of_lt (Nat.lt_of_lt_of_le (blk_lt H4.out) (Nat.le_of_eq qg.symm))); replace H4 := am (blk_below H4.out qb); replace HX6 := am (blk_below HX6.out qb); replace HWS := am (HWS.out.below qb); replace HB := am (below_step HB.out qb); clear qg qx qb) | ((with_reducible refine gs 47 8 ?_); refine store_row_event rfl 47 (.tmp 8) (.tmp 25) rfl b8 zR rfl rfl 47 _ H8.out size47 rfl (rOne _ _ _ _ rfl rfl rfl) rfl ?_; intro W hw; rw [setRow_self _ _ _ _ _ H8.out] at hw; subst hw))
  have R0 : Aside0 (RN w W P nc b4 b6 b8 0 0 (ls0 P nc, 0) (.slice none 0 0) (.slice none 0 0)) := ⟨⟨⟨_, g, g, ls0 P nc, vR, vQ, HX6.out, HWS.out, Seen.refl _ _, fun j k _ h => by simp [Value.ownBlock] at h, HLO0.out⟩, H8.out, H4.out, Kd.R_nil _ _ _ _ _, ⟨[], Kd.R_nil _ _ _ _ _, rfl, fun e he => by cases he⟩, HB.out, HG4.out, HG6.out, HG8.out, HN48.out⟩⟩
  clear HX6 HWS H8 H4 HB HG4 HG6 HG8 HN48 hm2
  go_wp2
  go_loopw [9] (fun v9 wr => ∃ (i : Nat) (vP vT : Value), i ≤ m ∧ v9 = .int .i64 (i : Int) ∧ Aside0 (RN w wr P nc b4 b6 b8 i i (itS code (ls0 P nc, 0) i) vP vT)) (fun v9 _ => m - (intOf v9).toNat)
  case atStart => exact ⟨0, _, _, Nat.zero_le _, rfl, R0⟩
  case round =>
    clear R0
    obtain ⟨i, vP, vT, hi, rfl, RNW⟩ := hrel
    by_cases hlt : i < m
    · as_aux_lemma =>
        have hcan := HCANS.out i hlt
        have hgs := gs_it HG.out i (fun q hq => HCANS.out q (by omega))
        obtain ⟨s, hs⟩ : ∃ s, s = itS code (ls0 P nc, 0) i := ⟨_, rfl⟩
        obtain ⟨s', hs'⟩ : ∃ s', s' = stS code s := ⟨_, rfl⟩
        have HS1 : Aside0 (s' = itS code (ls0 P nc, 0) (i + 1)) := ⟨by rw [hs', hs]; rfl⟩
        rw [← hs] at RNW hcan hgs
        obtain ⟨lo, g, f, lsO, vR, vQ, hx6, hw6, hse, hne, hlo0⟩ := RNW.out.st
        have HST : Aside0 (∀ w', Below wr.heap.size wr w' → Calls Try.prog 40 #[.agg (sCells P f vR vQ s.2), .int .i64 0] w' (RetS w' w'.heap.size nc P s'.1 s'.2)) := ⟨fun w' hb => by
          rw [hs']
          exact step_any P f s.1 vR vQ nc s.2 code pc w' (HP.out.below (below_step RNW.out.be hb)) ((hw6.below hb).rs hse) hgs.si hcan (fun j => Nat.le_trans (hgs.len j) (by have := HM.out; omega)) HNC.out hgs.un⟩
        clear hs hs' hcan hgs
        have HX6 := am hx6
        have HW := am hw6
        have HSE := am hse
        have HB := am RNW.out.be
        have HIM : Aside0 (i < 200) := ⟨by have := HM.out; omega⟩
        have HLT := am hlt
        obtain ⟨adS, rfl, hcs⟩ := Kd.at_int HCS.out (i : Int) (by omega) (by omega)
        have HSC := am (show w.cell? (adS.add i) = some (.int .i64 0) by
          rw [Int.toNat_natCast] at hcs
          rw [hcs]
          congr 2
          unfold rd
          rw [Int.toNat_natCast, List.getD_eq_getElem?_getD, List.getElem?_replicate]
          split <;> rfl)
        have p0 := eq_true (show (0 : Int) ≤ (i : Int) by omega)
        have p1 := eq_true (show (i : Int) < (m : Int) by omega)
        have HE1 : Aside0 (wrap64 ((i : Int) + 1) = ((i + 1 : Nat) : Int)) := ⟨wrap64_up i (by have := HM.out; omega)⟩
        clear hx6 hw6 hse hne hcs hlt hi hlo0
        go_wp2
        refine sa 15 (fun w' => Below wr.heap.size wr w') runT10 (below_drew (Below.refl _ _)) [12, 13] (fun HT_ hHeld => ?_)
        refine ta 0 33 HT_ hHeld (v := (.agg (sCells P f vR vQ s.2))) ?_ ?_
        · exact fun w' hS' => exec_load_row 70 (.tmp 6) rfl b6 rfl 70 (sCells P f vR vQ s.2) (0, 0) _ (blk_below HX6.out hS') Try.underlying70 rfl size70
        refine pu 1 34 HT_ ?_
        refine pu 2 35 HT_ ?_
        refine pu 3 36 HT_ ?_
        refine ta 4 37 HT_ hHeld (v := ?_) ?_ ?_; rotate_left
        · intro w' hS'; have y_ := pw_cell_below (below_step HB.out hS') HSC.out; go_simp; with_reducible rfl
        refine join_ (σ := Value × Value × Value × Value × Value) 3 (bm 15 4095) (fun s => [(38, s.1), (32, s.1), (39, s.2.1), (40, s.2.2.1), (41, .bool true), (10, s.2.2.2.1), (11, s.2.2.2.2)]) (fun s w' => JC nc wr.heap.size P s' s.1 s.2.1 s.2.2.1 w' ∧ JB wr.heap.size 70 zCells s.2.2.2.1 w' ∧ JB wr.heap.size 75 zE s.2.2.2.2 w' ∧ Below wr.heap.size wr w') ?_ ?_
        rotate_left
        · intro hCont
          refine three_ (i := 5) (j := 10) (k := 11) (Ni := some 38) (Nj := some 10) (Nk := some 11) (bm 15 63) (bm 15 1055) (bm 15 2079) rfl rfl rfl rfl rfl rfl (three_of HT_.out (by kernel_rfl)) (by decide) (by decide) (by decide) (fun K hK => ?_) (fun K hK => ?_) (fun K hK => ?_)
          · skip
            refine call_ 40 #[.agg (sCells P f vR vQ s.2), .int .i64 0] (by rfl) rfl ?hr ?_
            case hr => go_simp; try rfl
            refine (HST.out _ hHeld).mono ?_
            rintro e wx ⟨g', f', lsO', vR', vQ', ev', rfl, hev, hwf, hse, hb_, _⟩
            have hb := (show Below _ _ wx from hb_)
            have jC : JC nc wr.heap.size P s' (.tuple #[.agg (sCells P f' vR' vQ' s'.2), .agg (eCells ev'), .bool true]) (.agg (sCells P f' vR' vQ' s'.2)) (.agg (eCells ev')) wx := ⟨_, g', f', lsO', vR', vQ', ev', rfl, rfl, rfl, hev, hwf, hse, below_size hHeld⟩
            refine ⟨_, rfl, ?_⟩
            have hHeld1 := below_step hHeld hb
            refine hK.out _ _ hHeld1 (fun hHeld => ?_)
            clear hK K hHeld1
            refine nm 38 ?_
            refine pu 6 32 HT_ ?_
            refine pu 7 39 HT_ ?_
            refine pu 8 40 HT_ ?_
            refine pu 9 41 HT_ ?_
            refine two_ (i := 10) (j := 11) (Ni := some 10) (Nj := some 11) (bm 15 2047) (bm 15 3071) rfl rfl rfl rfl (two_of HT_.out (by kernel_rfl)) (by decide) (by decide) (fun K hK => ?_) (fun K hK => ?_)
            · skip
              refine box_step (by rfl) (N := 10) rfl (cs := zCells) (t := 70) ?hr ?_
              case hr => go_simp; try rfl
              intro bx hg wx hbox hb
              have jA : JB wr.heap.size 70 zCells (.pointer (some ⟨bx, 0, none⟩)) wx := ⟨bx, rfl, hbox, Nat.le_trans (below_size hHeld) (Nat.le_of_eq hg.symm)⟩
              replace jC := jC.below hb
              have hHeld1 := below_step hHeld hb
              refine hK.out _ _ hHeld1 (fun hHeld => ?_)
              clear hK K hHeld1
              refine nm 10 ?_
              refine one_ (i := 11) (N := some 11) (bm 15 4095) rfl rfl (one_of HT_.out (by kernel_rfl)) (by decide) (fun K hK => ?_)
              refine box_step (by rfl) (N := 11) rfl (cs := zE) (t := 75) ?hr ?_
              case hr => go_simp; try rfl
              intro bx hg wx hbox hb
              have jE : JB wr.heap.size 75 zE (.pointer (some ⟨bx, 0, none⟩)) wx := ⟨bx, rfl, hbox, Nat.le_trans (below_size hHeld) (Nat.le_of_eq hg.symm)⟩
              replace jC := jC.below hb
              replace jA := jA.below hb
              have hHeld1 := below_step hHeld hb
              refine hK.out _ _ hHeld1 (fun hHeld => ?_)
              clear hK K hHeld1
              refine nm 11 ?_
              exact norm_ (by first | (simp only [putAll, Act.put, List.setIfInBounds_toArray, List.set_cons_zero, List.set_cons_succ]; done) | (simp only [putAll, Act.put, List.setIfInBounds_toArray, List.set_cons_zero, List.set_cons_succ]; rfl)) (hCont (_, _, _, _, _) _ ⟨jC, jA, jE, hHeld⟩)
            · skip
              refine box_step (by rfl) (N := 11) rfl (cs := zE) (t := 75) ?hr ?_
              case hr => go_simp; try rfl
              intro bx hg wx hbox hb
              have jE : JB wr.heap.size 75 zE (.pointer (some ⟨bx, 0, none⟩)) wx := ⟨bx, rfl, hbox, Nat.le_trans (below_size hHeld) (Nat.le_of_eq hg.symm)⟩
              replace jC := jC.below hb
              have hHeld1 := below_step hHeld hb
              refine hK.out _ _ hHeld1 (fun hHeld => ?_)
              clear hK K hHeld1
              refine nm 11 ?_
              refine one_ (i := 10) (N := some 10) (bm 15 4095) rfl rfl (one_of HT_.out (by kernel_rfl)) (by decide) (fun K hK => ?_)
              refine box_step (by rfl) (N := 10) rfl (cs := zCells) (t := 70) ?hr ?_
              case hr => go_simp; try rfl
              intro bx hg wx hbox hb
              have jA : JB wr.heap.size 70 zCells (.pointer (some ⟨bx, 0, none⟩)) wx := ⟨bx, rfl, hbox, Nat.le_trans (below_size hHeld) (Nat.le_of_eq hg.symm)⟩
              replace jC := jC.below hb
              replace jE := jE.below hb
              have hHeld1 := below_step hHeld hb
              refine hK.out _ _ hHeld1 (fun hHeld => ?_)
              clear hK K hHeld1
              refine nm 10 ?_
              exact norm_ (by first | (simp only [putAll, Act.put, List.setIfInBounds_toArray, List.set_cons_zero, List.set_cons_succ]; done) | (simp only [putAll, Act.put, List.setIfInBounds_toArray, List.set_cons_zero, List.set_cons_succ]; rfl)) (hCont (_, _, _, _, _) _ ⟨jC, jA, jE, hHeld⟩)
          · skip
            refine box_step (by rfl) (N := 10) rfl (cs := zCells) (t := 70) ?hr ?_
            case hr => go_simp; try rfl
            intro bx hg wx hbox hb
            have jA : JB wr.heap.size 70 zCells (.pointer (some ⟨bx, 0, none⟩)) wx := ⟨bx, rfl, hbox, Nat.le_trans (below_size hHeld) (Nat.le_of_eq hg.symm)⟩
            have hHeld1 := below_step hHeld hb
            refine hK.out _ _ hHeld1 (fun hHeld => ?_)
            clear hK K hHeld1
            refine nm 10 ?_
            refine two_ (i := 5) (j := 11) (Ni := some 38) (Nj := some 11) (bm 15 1087) (bm 15 3103) rfl rfl rfl rfl (two_of HT_.out (by kernel_rfl)) (by decide) (by decide) (fun K hK => ?_) (fun K hK => ?_)
            · skip
              refine call_ 40 #[.agg (sCells P f vR vQ s.2), .int .i64 0] (by rfl) rfl ?hr ?_
              case hr => go_simp; try rfl
              refine (HST.out _ hHeld).mono ?_
              rintro e wx ⟨g', f', lsO', vR', vQ', ev', rfl, hev, hwf, hse, hb_, _⟩
              have hb := (show Below _ _ wx from hb_)
              have jC : JC nc wr.heap.size P s' (.tuple #[.agg (sCells P f' vR' vQ' s'.2), .agg (eCells ev'), .bool true]) (.agg (sCells P f' vR' vQ' s'.2)) (.agg (eCells ev')) wx := ⟨_, g', f', lsO', vR', vQ', ev', rfl, rfl, rfl, hev, hwf, hse, below_size hHeld⟩
              refine ⟨_, rfl, ?_⟩
              replace jA := jA.below hb
              have hHeld1 := below_step hHeld hb
              refine hK.out _ _ hHeld1 (fun hHeld => ?_)
              clear hK K hHeld1
              refine nm 38 ?_
              refine pu 6 32 HT_ ?_
              refine pu 7 39 HT_ ?_
              refine pu 8 40 HT_ ?_
              refine pu 9 41 HT_ ?_
              refine one_ (i := 11) (N := some 11) (bm 15 4095) rfl rfl (one_of HT_.out (by kernel_rfl)) (by decide) (fun K hK => ?_)
              refine box_step (by rfl) (N := 11) rfl (cs := zE) (t := 75) ?hr ?_
              case hr => go_simp; try rfl
              intro bx hg wx hbox hb
              have jE : JB wr.heap.size 75 zE (.pointer (some ⟨bx, 0, none⟩)) wx := ⟨bx, rfl, hbox, Nat.le_trans (below_size hHeld) (Nat.le_of_eq hg.symm)⟩
              replace jA := jA.below hb
              replace jC := jC.below hb
              have hHeld1 := below_step hHeld hb
              refine hK.out _ _ hHeld1 (fun hHeld => ?_)
              clear hK K hHeld1
              refine nm 11 ?_
              exact norm_ (by first | (simp only [putAll, Act.put, List.setIfInBounds_toArray, List.set_cons_zero, List.set_cons_succ]; done) | (simp only [putAll, Act.put, List.setIfInBounds_toArray, List.set_cons_zero, List.set_cons_succ]; rfl)) (hCont (_, _, _, _, _) _ ⟨jC, jA, jE, hHeld⟩)
            · skip
              refine box_step (by rfl) (N := 11) rfl (cs := zE) (t := 75) ?hr ?_
              case hr => go_simp; try rfl
              intro bx hg wx hbox hb
              have jE : JB wr.heap.size 75 zE (.pointer (some ⟨bx, 0, none⟩)) wx := ⟨bx, rfl, hbox, Nat.le_trans (below_size hHeld) (Nat.le_of_eq hg.symm)⟩
              replace jA := jA.below hb
              have hHeld1 := below_step hHeld hb
              refine hK.out _ _ hHeld1 (fun hHeld => ?_)
              clear hK K hHeld1
              refine nm 11 ?_
              refine one_ (i := 5) (N := some 38) (bm 15 3135) rfl rfl (one_of HT_.out (by kernel_rfl)) (by decide) (fun K hK => ?_)
              refine call_ 40 #[.agg (sCells P f vR vQ s.2), .int .i64 0] (by rfl) rfl ?hr ?_
              case hr => go_simp; try rfl
              refine (HST.out _ hHeld).mono ?_
              rintro e wx ⟨g', f', lsO', vR', vQ', ev', rfl, hev, hwf, hse, hb_, _⟩
              have hb := (show Below _ _ wx from hb_)
              have jC : JC nc wr.heap.size P s' (.tuple #[.agg (sCells P f' vR' vQ' s'.2), .agg (eCells ev'), .bool true]) (.agg (sCells P f' vR' vQ' s'.2)) (.agg (eCells ev')) wx := ⟨_, g', f', lsO', vR', vQ', ev', rfl, rfl, rfl, hev, hwf, hse, below_size hHeld⟩
              refine ⟨_, rfl, ?_⟩
              replace jA := jA.below hb
              replace jE := jE.below hb
              have hHeld1 := below_step hHeld hb
              refine hK.out _ _ hHeld1 (fun hHeld => ?_)
              clear hK K hHeld1
              refine nm 38 ?_
              refine pu 6 32 HT_ ?_
              refine pu 7 39 HT_ ?_
              refine pu 8 40 HT_ ?_
              refine pu 9 41 HT_ ?_
              exact norm_ (by first | (simp only [putAll, Act.put, List.setIfInBounds_toArray, List.set_cons_zero, List.set_cons_succ]; done) | (simp only [putAll, Act.put, List.setIfInBounds_toArray, List.set_cons_zero, List.set_cons_succ]; rfl)) (hCont (_, _, _, _, _) _ ⟨jC, jA, jE, hHeld⟩)
          · skip
            refine box_step (by rfl) (N := 11) rfl (cs := zE) (t := 75) ?hr ?_
            case hr => go_simp; try rfl
            intro bx hg wx hbox hb
            have jE : JB wr.heap.size 75 zE (.pointer (some ⟨bx, 0, none⟩)) wx := ⟨bx, rfl, hbox, Nat.le_trans (below_size hHeld) (Nat.le_of_eq hg.symm)⟩
            have hHeld1 := below_step hHeld hb
            refine hK.out _ _ hHeld1 (fun hHeld => ?_)
            clear hK K hHeld1
            refine nm 11 ?_
            refine two_ (i := 5) (j := 10) (Ni := some 38) (Nj := some 10) (bm 15 2111) (bm 15 3103) rfl rfl rfl rfl (two_of HT_.out (by kernel_rfl)) (by decide) (by decide) (fun K hK => ?_) (fun K hK => ?_)
            · skip
              refine call_ 40 #[.agg (sCells P f vR vQ s.2), .int .i64 0] (by rfl) rfl ?hr ?_
              case hr => go_simp; try rfl
              refine (HST.out _ hHeld).mono ?_
              rintro e wx ⟨g', f', lsO', vR', vQ', ev', rfl, hev, hwf, hse, hb_, _⟩
              have hb := (show Below _ _ wx from hb_)
              have jC : JC nc wr.heap.size P s' (.tuple #[.agg (sCells P f' vR' vQ' s'.2), .agg (eCells ev'), .bool true]) (.agg (sCells P f' vR' vQ' s'.2)) (.agg (eCells ev')) wx := ⟨_, g', f', lsO', vR', vQ', ev', rfl, rfl, rfl, hev, hwf, hse, below_size hHeld⟩
              refine ⟨_, rfl, ?_⟩
              replace jE := jE.below hb
              have hHeld1 := below_step hHeld hb
              refine hK.out _ _ hHeld1 (fun hHeld => ?_)
              clear hK K hHeld1
              refine nm 38 ?_
              refine pu 6 32 HT_ ?_
              refine pu 7 39 HT_ ?_
              refine pu 8 40 HT_ ?_
              refine pu 9 41 HT_ ?_
              refine one_ (i := 10) (N := some 10) (bm 15 4095) rfl rfl (one_of HT_.out (by kernel_rfl)) (by decide) (fun K hK => ?_)
              refine box_step (by rfl) (N := 10) rfl (cs := zCells) (t := 70) ?hr ?_
              case hr => go_simp; try rfl
              intro bx hg wx hbox hb
              have jA : JB wr.heap.size 70 zCells (.pointer (some ⟨bx, 0, none⟩)) wx := ⟨bx, rfl, hbox, Nat.le_trans (below_size hHeld) (Nat.le_of_eq hg.symm)⟩
              replace jE := jE.below hb
              replace jC := jC.below hb
              have hHeld1 := below_step hHeld hb
              refine hK.out _ _ hHeld1 (fun hHeld => ?_)
              clear hK K hHeld1
              refine nm 10 ?_
              exact norm_ (by first | (simp only [putAll, Act.put, List.setIfInBounds_toArray, List.set_cons_zero, List.set_cons_succ]; done) | (simp only [putAll, Act.put, List.setIfInBounds_toArray, List.set_cons_zero, List.set_cons_succ]; rfl)) (hCont (_, _, _, _, _) _ ⟨jC, jA, jE, hHeld⟩)
            · skip
              refine box_step (by rfl) (N := 10) rfl (cs := zCells) (t := 70) ?hr ?_
              case hr => go_simp; try rfl
              intro bx hg wx hbox hb
              have jA : JB wr.heap.size 70 zCells (.pointer (some ⟨bx, 0, none⟩)) wx := ⟨bx, rfl, hbox, Nat.le_trans (below_size hHeld) (Nat.le_of_eq hg.symm)⟩
              replace jE := jE.below hb
              have hHeld1 := below_step hHeld hb
              refine hK.out _ _ hHeld1 (fun hHeld => ?_)
              clear hK K hHeld1
              refine nm 10 ?_
              refine one_ (i := 5) (N := some 38) (bm 15 3135) rfl rfl (one_of HT_.out (by kernel_rfl)) (by decide) (fun K hK => ?_)
              refine call_ 40 #[.agg (sCells P f vR vQ s.2), .int .i64 0] (by rfl) rfl ?hr ?_
              case hr => go_simp; try rfl
              refine (HST.out _ hHeld).mono ?_
              rintro e wx ⟨g', f', lsO', vR', vQ', ev', rfl, hev, hwf, hse, hb_, _⟩
              have hb := (show Below _ _ wx from hb_)
              have jC : JC nc wr.heap.size P s' (.tuple #[.agg (sCells P f' vR' vQ' s'.2), .agg (eCells ev'), .bool true]) (.agg (sCells P f' vR' vQ' s'.2)) (.agg (eCells ev')) wx := ⟨_, g', f', lsO', vR', vQ', ev', rfl, rfl, rfl, hev, hwf, hse, below_size hHeld⟩
              refine ⟨_, rfl, ?_⟩
              replace jE := jE.below hb
              replace jA := jA.below hb
              have hHeld1 := below_step hHeld hb
              refine hK.out _ _ hHeld1 (fun hHeld => ?_)
              clear hK K hHeld1
              refine nm 38 ?_
              refine pu 6 32 HT_ ?_
              refine pu 7 39 HT_ ?_
              refine pu 8 40 HT_ ?_
              refine pu 9 41 HT_ ?_
              exact norm_ (by first | (simp only [putAll, Act.put, List.setIfInBounds_toArray, List.set_cons_zero, List.set_cons_succ]; done) | (simp only [putAll, Act.put, List.setIfInBounds_toArray, List.set_cons_zero, List.set_cons_succ]; rfl)) (hCont (_, _, _, _, _) _ ⟨jC, jA, jE, hHeld⟩)
        rintro ⟨v38, v39, v40, v10, v11⟩ wj ⟨⟨lo', g', f', lsO', vR', vQ', ev', e38, e39, e40, hev, hwf, hse, hlo⟩, ⟨b10, e10, hx10, hl10⟩, ⟨b11, e11, hx11, hl11⟩, hbj⟩
        dsimp only at e38 e39 e40 e10 e11 hwf hx10 hx11 hbj
        subst e38 e39 e40 e10 e11
        refine norm_ (a' := ?_) ?_ ?_
        rotate_left
        · simp only [putAll, Act.put, List.setIfInBounds_toArray, List.set_cons_zero, List.set_cons_succ]
          rfl
        have HRN := am (RNW.out.below hbj)
        have HWF := am hwf
        have HSE2 := am hse
        have HLO2 := am hlo
        have HX10 := am hx10
        have HX11 := am hx11
        have HEV := am hev
        have HBJ := am hbj
        have HNE := am (NE.fresh HWF.out HLO2.out RNW.out.p)
        have HN10 := am (show b10 ≠ b11 from blk_ne HX10.out HX11.out (by decide))
        have HG10 := am hl10
        have HG11 := am hl11
        clear hwf hse hlo hx10 hx11 hev hbj hl10 hl11
        refine la 12 (none) HT_ (fun K hK => ?_)
        refine skip_ (w1 := wj.setRow b10 (sCells P f' vR' vQ' s'.2)) (by rfl) rfl (exec_store_row 70 (.tmp 10) (.tmp 39) rfl b10 (sCells P f' vR' vQ' s'.2) rfl rfl 70 _ HX10.out size70 rfl (sOne _ (HWF.out.rs HSE2.out) HC.out HT.out)) ?_
        refine hK.out _ _ ?_
        clear hK K
        refine la 13 (none) HT_ (fun K hK => ?_)
        refine skip_ (w1 := (wj.setRow b10 (sCells P f' vR' vQ' s'.2)).setRow b11 (eCells ev')) (by rfl) rfl (exec_store_row 75 (.tmp 11) (.tmp 40) rfl b11 (eCells ev') rfl rfl 75 _ ((setRow_other _ _ _ _ (Ne.symm HN10.out)).trans HX11.out) size75 rfl (eOne _)) ?_
        obtain ⟨wk, hwk⟩ : ∃ wk, wk = (wj.setRow b10 (sCells P f' vR' vQ' s'.2)).setRow b11 (eCells ev') := ⟨_, rfl⟩
        rw [← hwk]
        have HWK := am hwk
        clear hwk
        refine hK.out _ _ ?_
        clear hK K
        refine pu 14 12 HT_ ?_
        refine dn HT_ ?_
        have HX10k := am (show wk.heap[b10]? = some (.cells (sCells P f' vR' vQ' s'.2) 70 (0, 0)) by rw [HWK.out]; exact (setRow_other _ _ _ _ HN10.out).trans (setRow_heap _ _ _ _ _ _ HX10.out))
        have HN6 := am (show b6 ≠ b10 by have h1 := blk_lt HX6.out; have h2 := HG10.out; omega)
        have HXk6 := am (show wk.heap[b6]? = some (.cells (sCells P f vR vQ s.2) 70 (0, 0)) by rw [HWK.out]; exact (setRow_other _ _ _ _ (blk_ne (blk_below HX6.out HBJ.out) HX11.out (by decide))).trans ((setRow_other _ _ _ _ HN6.out).trans (blk_below HX6.out HBJ.out)))
        go_wp2_with (first | ((with_reducible refine gd 43 ?_); refine wpList_load_row rfl 70 (.tmp 10) rfl b10 rfl 70 (sCells P f' vR' vQ' s'.2) (0, 0) _ HX10k.out Try.underlying70 rfl size70 ?_) | ((with_reducible refine gs 70 6 ?_); refine store_row_event rfl 70 (.tmp 6) (.tmp 43) rfl b6 (sCells P f' vR' vQ' s'.2) rfl rfl 70 _ HXk6.out size70 rfl (sOne _ (HWF.out.rs HSE2.out) HC.out HT.out) rfl ?_; intro W12 hw12; rw [HWK.out] at hw12; have HMID := am (RN.mid HRN.out (fun e => by obtain ⟨evs, t1, _⟩ := RNW.out.t; obtain ⟨c1, h1⟩ := own75 t1 e; have h2 := blk_lt h1; have h3 := HG11.out; omega) HWF.out HSE2.out HNE.out HX10.out HX11.out (Nat.le_trans (below_size HB.out) HG10.out) (Nat.le_trans (below_size HB.out) HG11.out) HN6.out (Nat.le_trans (below_size HB.out) HLO2.out) hw12); clear hw12))
        have HR12 := am HMID.out.1
        have HX11k := am HMID.out.2
        clear HMID HXk6 HX10k HWK HN6 HWF HSE2 HLO2 HX10 HX11 HBJ HNE HN10 HG10 HG11 HRN HX6 HW HSE HST RNW HB
        have q0 := p0
        refine sa 10 (fun w' => Below W12.heap.size W12 w') runT13 (below_drew (Below.refl _ _)) [7, 9] (fun HT_ hHeld => ?_)
        refine pu 0 44 HT_ ?_
        refine ta 1 45 HT_ hHeld (v := ?_) ?_ ?_; rotate_left
        · intro w' hS'; have y_ : w'.cell? ⟨b8, 2, none⟩ = some vP := blk_cell (blk_below HR12.out.x8 hS') 2; go_simp; with_reducible rfl
        refine pu 2 46 HT_ ?_
        refine pu 3 47 HT_ ?_
        refine pu 4 48 HT_ ?_
        refine ta 5 49 HT_ hHeld (v := ?_) ?_ ?_; rotate_left
        · intro w' hS'; have y_ := pw_cell_below (below_step HR12.out.be hS') HSC.out; go_simp; with_reducible rfl
        refine on 6 (some 50) HT_ (fun K hK => ?_)
        refine Kd.R_lit_step (Kd.int .i64) (w0 := W12.drew) W12.drew.heap.size 3 (by rfl) (N := 50) rfl (xs := [(0 : Int)]) (inner := [.int .i64 0]) (ok := fun _ => True) (okp := fun _ => False) ?hr (Kd.reps_scalar _) (fun _ h => h.elim) trivial (Below.refl _ _) (Nat.le_refl _) (by simp) ?_
        case hr => go_simp; try rfl
        intro vl w3 hl hb3 _ _
        obtain ⟨Al, cl, el⟩ := Kd.R_slice hl
        subst el
        have HL3 := am (Kd.R_reads' hl).2.2
        have hb13 := below_step hHeld hb3
        have HR3 := am (HR12.out.below hb13)
        have HB13 := am hb13
        clear hl hb3 hb13
        refine hK.out _ _ (HB13.out) (fun hHeld => ?_)
        clear hK K
        refine nm 50 ?_
        refine la 7 (some 51) HT_ (fun K hK => ?_)
        refine Kd.R_append_rows_step (Kd.int .i64) (w0 := w) w.heap.size (by rfl) (.tmp 45) (.tmp 50) 23 3 (.int .i64 0) 8 rfl Try.underlying23 info3 rfl (by decide) (by omega) vP (List.replicate i 0) [(0 : Int)] _ _ _ (fun _ => True) (fun _ => False) rfl rfl (Kd.R_mono HR3.out.p (fun _ _ => trivial)) HL3.out (fun _ _ h => h) (fun _ h => h.elim) (fun _ _ => trivial) HR3.out.be (below_size HR3.out.be) (by have := HIM.out; simp only [List.length_replicate, List.length_cons, List.length_nil]; omega) ?_
        intro vn w4 hap _ hg4 hat
        obtain ⟨An, cn, en⟩ := Kd.R_slice hap
        subst en
        have HAP := am hap
        have HG4 := am hg4
        have HAT := am hat
        have H84 := am (show w4.heap[b8]? = some (.cells (rCells (.slice none 0 0) 0 vP vT) 47 (0, 0)) from blk_grown HR3.out.x8 hg4 (fun e => by obtain ⟨c2, h5⟩ := own_block HR3.out.p e.symm; exact blk_ne HR3.out.x8 h5 (by decide) rfl))
        clear hap hg4 hat
        refine hK.out _ _ ?_
        clear hK K
        refine nm 51 ?_
        refine pu 8 52 HT_ ?_
        refine la 9 (none) HT_ (fun K hK => ?_)
        have y_ : w4.cell? ⟨b8, 2, none⟩ = some vP := blk_cell H84.out 2
        have z_ := blk_frozen H84.out 2
        refine skip_ (w1 := (w4.setCell ⟨b8, 2, none⟩ (.slice An (List.replicate i 0 ++ [(0 : Int)]).length cn))) (by rfl) rfl ?hr ?_
        case hr => go_simp; try rfl
        clear y_ z_
        obtain ⟨w5, hw5⟩ : ∃ w5, w5 = w4.setCell ⟨b8, 2, none⟩ (.slice An (List.replicate i 0 ++ [(0 : Int)]).length cn) := ⟨_, rfl⟩
        have HPK := am (show RN w w5 P nc b4 b6 b8 (i + 1) i s' (.slice An (List.replicate i 0 ++ [(0 : Int)]).length cn) vT ∧ w5.heap[b11]? = some (.cells (eCells ev') 75 (0, 0)) by rw [hw5]; obtain ⟨h1, h2⟩ := HR3.out.picks HAP.out HG4.out HAT.out; exact ⟨h1, h2 _ _ _ (blk_below HX11k.out HB13.out) (by decide) (by decide)⟩)
        rw [← hw5]
        clear hw5
        refine hK.out _ _ ?_
        clear hK K
        refine dn HT_ ?_
        obtain ⟨evs, tt1, tt2, tt3⟩ := HPK.out.1.t
        have HT1 := am tt1
        have HT2 := am tt2
        have HT3 := am tt3
        clear tt1 tt2 tt3
        have HRP := am HPK.out.1
        have HX11p := am HPK.out.2
        clear HPK HAP HG4 HAT H84 HR3 HR12 HX11k HL3 HB13
        have z3 : w5.cell? ⟨b8, 3, none⟩ = some vT := blk_cell HRP.out.x8 3
        go_wp2_with (first | ((with_reducible refine gd 55 ?_); refine wpList_load_row rfl 75 (.tmp 11) rfl b11 rfl 75 (eCells ev') (0, 0) _ HX11p.out Try.underlying75 rfl size75 ?_) | ((with_reducible refine gd 56 ?_); refine Kd.R_lit k75 (w0 := w5) w5.heap.size 75 ?hg (N := 56) ?hd (xs := [evS ev']) (inner := [.int .i64 ev'.t, .int .i64 ev'.p, .int .u8 ev'.o, .int .i64 ev'.b, .int .i64 ev'.v, .int .i64 ev'.m]) (ok := fun _ => True) (okp := fun _ => False) ?hr ?hp (fun _ h => h.elim) trivial (Below.refl _ _) (Nat.le_refl _) (by simp) ?_; (case hd => rfl); (case hg => rfl); (case hr => exact exec_bs75 (.tmp 55) rfl ev' rfl); (case hp => exact Reps.c6 (k75_mkM _ _ _ (evS ev')) (Reps.none _ _)); intro vl w6 hl hb6 _ _; obtain ⟨Al, cl, el⟩ := Kd.R_slice hl; subst el; have HL6 := am (Kd.R_reads' hl).2.2; have HR6 := am (HRP.out.below hb6); have HT6 := am (show Trc w6 w.heap.size vT evs from Kd.R_below HT1.out hb6); clear hl hb6) | ((with_reducible refine gate_builtin (b := .append) (xs := #[.tmp 54, .tmp 56]) rfl ?_); at_builtin; refine Kd.R_append_rows k75 (w0 := w) w.heap.size rfl (.tmp 54) (.tmp 56) 45 75 (.agg zE) 48 rfl Try.underlying45 info75 rfl (by decide) (by omega) vT evs [evS ev'] _ _ _ (fun _ => True) (fun _ => False) rfl rfl (Kd.R_mono HT6.out (fun _ _ => trivial)) HL6.out (fun x cs hk => (k75_open hk) ▸ k75_mkM _ _ _ x) (fun _ h => h.elim) (fun _ _ => trivial) HR6.out.be (below_size HR6.out.be) (by have h1 := HT2.out; have h2 := HIM.out; simp only [List.length_cons, List.length_nil]; omega) ?_; intro vn w7 hap _ hg7 _; obtain ⟨An2, cn2, en2⟩ := Kd.R_slice hap; subst en2; have H87 := am (show w7.heap[b8]? = some (.cells (rCells (.slice none 0 0) 0 (.slice An (List.replicate i 0 ++ [(0 : Int)]).length cn) vT) 47 (0, 0)) from blk_grown HR6.out.x8 hg7 (fun e => by (obtain ⟨c2, h5⟩ := own75 HT6.out e.symm; exact blk_ne HR6.out.x8 h5 (by decide) rfl))); have HAP7 := am hap; have HG7 := am hg7; clear hap hg7) | ((with_reducible refine gs 45 58 ?_); refine store_event (w1 := w7.setCell ⟨b8, 3, none⟩ (.slice An2 (evs ++ [evS ev']).length cn2)) rfl rfl rfl ?hr ?_; (case hr => (have y_ : w7.cell? ⟨b8, 3, none⟩ = some vT := blk_cell H87.out 3; have z_ := blk_frozen H87.out 3; first | (go_simp; done) | (go_simp; rfl))); intro w8 hw8; have HFIN := am (show RN w w8 P nc b4 b6 b8 (i + 1) (i + 1) s' (.slice An (List.replicate i 0 ++ [(0 : Int)]).length cn) (.slice An2 (evs ++ [evS ev']).length cn2) by rw [hw8]; exact HR6.out.trace HT6.out HT2.out HT3.out HEV.out HAP7.out HG7.out); clear hw8))
        go_roundw
        case rel => exact ⟨i + 1, _, _, HLT.out, by rw [HE1.out], ⟨by rw [← HS1.out]; exact HFIN.out⟩⟩
        case measure => have := HLT.out; rw [HE1.out]; simp [intOf]; omega
    · as_aux_lemma =>
        obtain rfl : i = m := by omega
        clear hlt hi
        have hgs := gs_it HG.out i (fun q hq => HCANS.out q hq)
        obtain ⟨s, hs⟩ : ∃ s, s = itS code (ls0 P nc, 0) i := ⟨_, rfl⟩
        rw [← hs] at RNW hgs
        have HS1 := am hs
        clear hs
        have HGS := am hgs
        obtain ⟨lo, g, f, lsO, vR, vQ, hx6, hw6, hse, hne, hlo0⟩ := RNW.out.st
        obtain ⟨evs, tt1, tt2, tt3⟩ := RNW.out.t
        obtain ⟨A11, c11, e11, _, _⟩ := (hw6.rs hse).row 11
        have HE11 := am e11
        have HX6 := am hx6
        have HW := am hw6
        have HSE := am hse
        have HTR := am tt1
        have HT2 := am tt2
        have HT3 := am tt3
        have HLO4 := am hlo0
        clear hlo0
        have HX8 := am RNW.out.x8
        have H4 := am RNW.out.x4
        have HPR := am RNW.out.p
        have HB := am RNW.out.be
        have HG48 := am (And.intro RNW.out.l4 (And.intro RNW.out.l8 RNW.out.n48))
        obtain ⟨AP, cP, eP⟩ := row_len HPR.out
        obtain ⟨AT, cT, eT⟩ := Kd.R_slice HTR.out
        have HEP := am eP
        have HET := am eT
        clear hx6 hw6 hse hne tt1 tt2 tt3 e11 hgs RNW eP eT
        have x17 := Box.at17 HX6.out
        rw [HE11.out] at x17
        have z0 : wr.cell? ⟨b8, 0, none⟩ = some (.slice none 0 0) := blk_cell HX8.out 0
        have zf : wr.frozen? ⟨b8, 0, none⟩ = false := blk_frozen HX8.out 0
        go_wp2_with (first | ((with_reducible refine gs 23 61 ?_); refine sv (wr.setCell ⟨b8, 0, none⟩ (.slice A11 (s.1 11).length c11)) ?_; intro W hw; clear x17 z0 zf; have HX8a := am (show W.heap[b8]? = some (.cells (rCells (.slice A11 (s.1 11).length c11) 0 vP vT) 47 (0, 0)) by rw [hw]; exact blk_put HX8.out 0 _ rfl); have HX6a := am (show Box W b6 P f vR vQ s.2 by rw [hw]; exact blk_far HX6.out (blk_ne HX6.out HX8.out (by decide)) _); have H4a := am (show W.heap[b4]? = some (.cells zR 47 (0, 0)) by rw [hw]; exact blk_far H4.out HG48.out.2.2 _); have HWa := am (show WF W lo g f lsO vR vQ nc by rw [hw]; exact HW.out.far HX8.out (by decide) (by decide) 0 _); have HPa := am (show Row W w.heap.size vP (List.replicate i 0) by rw [hw]; exact Row.far HPR.out HX8.out (by decide) 0 _); have HTa := am (show Trc W w.heap.size vT evs by rw [hw]; exact Trc.far HTR.out HX8.out (by decide) 0 _); have HBa := am (show Below w.heap.size w W by rw [hw]; exact below_set HB.out HG48.out.2.1); clear hw HX8 HX6 H4 HW HPR HTR HB) | ((with_reducible refine gd 62 ?_); refine wpList_load_row rfl 70 (.tmp 6) rfl b6 rfl 70 (sCells P f vR vQ s.2) (0, 0) _ HX6a.out Try.underlying70 rfl size70 ?_) | (go_at_call 56; refine (status_any P f s.1 vR vQ nc s.2 code pc _ (HP.out.below HBa.out) (HWa.out.rs HSE.out) HGS.out.si).mono ?_; rintro e W2 ⟨rfl, hb⟩; have HX8b := am (blk_below HX8a.out hb); have H4b := am (blk_below H4a.out hb); have HWb := am (HWa.out.below hb); have HPb := am (show Row W2 w.heap.size vP (List.replicate i 0) from Kd.R_below HPa.out hb); have HTb := am (show Trc W2 w.heap.size vT evs from Kd.R_below HTa.out hb); have HBb := am (below_step HBa.out hb); clear hb HX8a H4a HWa HPa HTa HBa HX6a; have y1 : W2.cell? ⟨b8, 1, none⟩ = some (.int .u8 0) := blk_cell HX8b.out 1; have yf : W2.frozen? ⟨b8, 1, none⟩ = false := blk_frozen HX8b.out 1) | ((with_reducible refine gs 5 64 ?_); refine sv (W2.setCell ⟨b8, 1, none⟩ (.int .u8 (statusF code pc s.1 s.2))) ?_; intro W3 hw; clear y1 yf; have HX8c := am (show W3.heap[b8]? = some (.cells (rCells (.slice A11 (s.1 11).length c11) (statusF code pc s.1 s.2) vP vT) 47 (0, 0)) by rw [hw]; exact blk_put HX8b.out 1 _ rfl); have H4c := am (show W3.heap[b4]? = some (.cells zR 47 (0, 0)) by rw [hw]; exact blk_far H4b.out HG48.out.2.2 _); have HWc := am (show WF W3 lo g f lsO vR vQ nc by rw [hw]; exact HWb.out.far HX8b.out (by decide) (by decide) 1 _); have HPc := am (show Row W3 w.heap.size vP (List.replicate i 0) by rw [hw]; exact Row.far HPb.out HX8b.out (by decide) 1 _); have HTc := am (show Trc W3 w.heap.size vT evs by rw [hw]; exact Trc.far HTb.out HX8b.out (by decide) 1 _); have HBc := am (show Below w.heap.size w W3 by rw [hw]; exact below_set HBb.out HG48.out.2.1); clear hw HX8b H4b HWb HPb HTb HBb) | ((with_reducible refine gd 65 ?_); refine wpList_load_row rfl 47 (.tmp 8) rfl b8 rfl 47 (rCells (.slice A11 (s.1 11).length c11) (statusF code pc s.1 s.2) vP vT) (0, 0) _ HX8c.out Try.underlying47 rfl size47 ?_) | ((with_reducible refine gs 47 4 ?_); refine store_row_event rfl 47 (.tmp 4) (.tmp 65) rfl b4 (rCells (.slice A11 (s.1 11).length c11) (statusF code pc s.1 s.2) vP vT) rfl rfl 47 _ H4c.out size47 rfl (rOne _ _ _ _ rfl (by rw [HEP.out]; rfl) (by rw [HET.out]; rfl)) rfl ?_; intro W4 hw4; have HW4 := am hw4; clear hw4))
        refine results2 rfl b4 (rCells (.slice A11 (s.1 11).length c11) (statusF code pc s.1 s.2) vP vT) (.int .i64 0) (run_loadVar_row _ b4 47 47 _ (0, 0) _ (show W4.heap[b4]? = some (.cells (rCells (.slice A11 (s.1 11).length c11) (statusF code pc s.1 s.2) vP vT) 47 (0, 0)) by rw [HW4.out]; exact setRow_heap _ _ _ _ _ _ H4c.out) Try.underlying47 rfl size47) ?hp ?hr ?hd ?_
        case hp => rfl
        case hr => rfl
        case hd => rfl
        have hlo4 := HLO4.out
        have hw4 : WF W4 lo g f lsO vR vQ nc := by rw [HW4.out]; exact HWc.out.farRow H4c.out (by decide) (by decide) _
        have hp4 : Row W4 w.heap.size vP (List.replicate i 0) := by rw [HW4.out]; exact Row.farRow HPc.out H4c.out (by decide) _
        have ht4 : Trc W4 w.heap.size vT evs := by rw [HW4.out]; exact Trc.farB HTc.out (fun e => by obtain ⟨c1, h1⟩ := own75 HTc.out e; exact blk_ne h1 H4c.out (by decide) rfl) _
        obtain ⟨A', c', e', hc', hC'⟩ := Kd.R_reads ht4
        rw [HT2.out] at e' hc' hC'
        have h11 := (hw4.rs HSE.out).row 11
        rw [HE11.out] at h11
        rw [← HS1.out]
        exact ⟨_, vP, vT, evs, rfl, h11, IS.of_R hp4, ⟨A', c', e', hc', hC'⟩, HT3.out, ⟨FRS.of (fun k hk => by rcases HSE.out 11 with h | h; rw [← HE11.out, h.1] at hk; exact Nat.le_trans hlo4 (Kd.R_base (hw4.ms.row 11) k hk); omega), FRS.of (fun k hk => Kd.R_base hp4 k hk), FRS.of (fun k hk => Kd.R_base ht4 k hk)⟩, by rw [HW4.out]; exact below_rowS HBc.out HG48.out.1⟩
end Go.Proofs.Yticdodbnjlnjlaa.P
