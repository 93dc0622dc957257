-- written by this project's xprint.py (a turn of the kit's printer; its own texts among them)
import Derived.Test.YtfiemikganhgeaaPx0
import Derived.Test.YtfiemikganhgeaaPx1
import Derived.Test.YtfiemikganhgeaaPx2
namespace Go.Proofs.Ytfiemikganhgeaa.P
open Go.RowKit Go.Proofs.YtfiemikganhgeaaW.PrintWords Go.Proofs.YtfiemikganhgeaaW.PrintLast Go.Proofs.YtfiemikganhgeaaW.PrintMore
attribute [local go_sem] max2_int min2_int max_two min_two max_three min_three max_four min_four   -- for this text's walks alone
attribute [local irreducible] Calls
set_option linter.unusedVariables false
set_option linter.unusedSimpArgs false

/-! ### flow_Solve: function 10 -/
def slDel10_ren : Go.Shelf.Ren := ⟨fun | 10 => 20 | 6 => 31 | n => n, fun | 22 => 33 | 23 => 3 | 25 => 50 | 3 => 3 | 4 => 4 | 0 => 0 | n => n, fun | n => n⟩
theorem slDel10 : Go.Proofs.SlLaysH.n10 Try.prog slDel10_ren := {
  mixed := by kernel_rfl
  f6 := ⟨Try.f31.name, by decide, Try.func31.trans (congrArg some (by kernel_rfl))⟩
  f10 := ⟨Try.f20.name, by decide, Try.func20.trans (congrArg some (by kernel_rfl))⟩
  t0 := Try.underlying0
  a0 := Try.isAgg0
  z0 := Try.sizeOf0
  v0 := Try.zeroValue0
  t3 := Try.underlying3
  a3 := Try.isAgg3
  z3 := Try.sizeOf3
  v3 := Try.zeroValue3
  t4 := Try.underlying4
  a4 := Try.isAgg4
  z4 := Try.sizeOf4
  v4 := Try.zeroValue4
  t22 := Try.underlying33
  a22 := Try.isAgg33
  z22 := Try.sizeOf33
  v22 := Try.zeroValue33
  a23 := Try.isAgg3
  z23 := Try.sizeOf3
  t25 := Try.underlying50
  a25 := Try.isAgg50
  z25 := Try.sizeOf50
  v25 := Try.zeroValue50 }
/-! What the solver's small parts do: told of the cells of its block alone. -/
def mtI (m : Bool) (a b : Int) : Int := if m = true then Go.bits .and .u64 a b else Go.bits .or .u64 a b
def alI (m : Bool) : Int := if m = true then 18446744073709551615 else 0
theorem all_any (w : World) (g : Nat) (m : Bool) (hc : w.cell? ⟨g, 4, none⟩ = some (.bool m)) :
    Calls Try.prog 15 #[.pointer (some ⟨g, 0, none⟩)] w fun e w' => e = .returned (.int .u64 (alI m)) ∧ Drawn0 w w' := by
  cases m with
  | true =>
    go_enter Try.func15, Try.ntmps15
    go_wp2_with (go_at_call 23; (with_reducible refine (bits_All.calls 64 18446744073709551615 _ rfl).mono ?_); rintro e w' ⟨rfl, ⟨nd, rfl⟩⟩)
    go_ret
    exact ⟨rfl, ⟨_, rfl⟩⟩
  | false =>
    go_enter Try.func15, Try.ntmps15
    go_wp2
    go_ret
    exact ⟨rfl, ⟨0, rfl⟩⟩
theorem meet_any (w : World) (g : Nat) (m : Bool) (a b : Int) (hc : w.cell? ⟨g, 4, none⟩ = some (.bool m)) :
    Calls Try.prog 25 #[.pointer (some ⟨g, 0, none⟩), .int .u64 a, .int .u64 b] w fun e w' => e = .returned (.int .u64 (mtI m a b)) ∧ w = w' := by
  cases m with
  | true =>
    go_enter Try.func25, Try.ntmps25
    go_wp2
    go_ret
    exact ⟨rfl, rfl⟩
  | false =>
    go_enter Try.func25, Try.ntmps25
    go_wp2
    go_ret
    exact ⟨rfl, rfl⟩
theorem edge_any (k : Nat) (w : World) (g : Nat) (bk : Bool) (A : Option Addr) (c : Nat) (ss : List (List Int)) (i : Int) (b : Bool) (hc : w.cell? ⟨g, 5, none⟩ = some (.bool bk)) (h0 : w.cell? ⟨g, 0, none⟩ = some (.slice A ss.length c))
    (hr : Kd.C (Kd.slice 3 (Kd.int .i64)) w A ss.length ss) (hi0 : 0 ≤ i) (hi1 : i < (ss.length : Int)) (h : if bk = true then slices_Contains_int_int.f k (rd_L1 ss i) (ss.length : Int) = some b else b = (i == 0)) :
    Calls Try.prog 24 #[.pointer (some ⟨g, 0, none⟩), .int .i64 i] w fun e w' => e = .returned (.bool b) ∧ Drawn0 w w' := by
  cases bk with
  | true =>
    rw [if_pos rfl] at h
    obtain ⟨ad, A1, c1, eA, h1, hl1, hr1⟩ := at_L1 hr i hi0 hi1
    subst eA
    have HR := Aside0.mk hr1
    have HC := Aside0.mk hl1
    have H := Aside0.mk h
    have p0 := eq_true hi0
    have p1 := eq_true hi1
    clear hr hr1 hl1 h hi0 hi1
    go_enter Try.func24, Try.ntmps24
    go_wp2
    go_quiet (first | (go_at_call 32; (with_reducible refine (slices_Contains_int_int.calls k _ _ (rd_L1 ss i) (ss.length : Int) b _ ?side1 ?side2 H.out).mono ?_); (case side1 => repeat (first | exact HR.out | (with_reducible refine Kd.C_drewN ?_ _) | (with_reducible refine Kd.C_drew ?_))); (case side2 => exact HC.out); rintro e w' ⟨rfl, ⟨nd, rfl⟩⟩; (try first | exact ⟨rfl, _, World.drewN_drewN _ _ _⟩ | exact ⟨rfl, _, Eq.trans (World.drewN_drewN _ _ _) (congrArg (World.drewN _) (Nat.add_assoc _ _ _))⟩)))
    try go_wp2
    go_ret
    exact ⟨rfl, ⟨_, rfl⟩⟩
  | false =>
    rw [if_neg (by decide)] at h
    subst h
    clear hr
    go_enter Try.func24, Try.ntmps24
    go_wp2
    go_ret
    exact ⟨rfl, ⟨0, rfl⟩⟩
/-! The solver in memory. -/
structure SvD where
  B : Nat
  lo : Nat
  hi : Nat
  g : Nat
  vS : Value
  vG : Value
  vK : Value
  st : Int
  must : Bool
  back : Bool
  vF : Value
  vT : Value
  vI : Value
  vO : Value
  vW : Value
  n : Nat
def svCells (D : SvD) (vQ : Value) : Array Value := #[D.vS, D.vG, D.vK, .int .u64 D.st, .bool D.must, .bool D.back, D.vF, D.vT, D.vI, D.vO, vQ, D.vW]
structure Sv (D : SvD) (w : World) (vQ : Value) (ins outs : List Int) (ws : List Bool) (q : List Int) : Prop where
  blk : w.heap[D.g]? = some (.cells (svCells D vQ) 43 (0, 0))
  ri : Kd.R (Kd.int .u64) 24 w D.B (fun k => D.vI.ownBlock = some k) D.vI ins
  ro : Kd.R (Kd.int .u64) 24 w D.B (fun k => D.vO.ownBlock = some k) D.vO outs
  rw_ : Kd.R Kd.bool 4 w D.B (fun k => D.vW.ownBlock = some k) D.vW ws
  rq : Kd.Q (Kd.int .i64) 3 w D.B (fun k => D.hi ≤ k) vQ q
  li : ins.length = D.n
  lo_ : outs.length = D.n
  lw : ws.length = D.n
  dI : ∀ k, D.vI.ownBlock = some k → k < D.lo ∧ k ≠ D.g
  dO : ∀ k, D.vO.ownBlock = some k → k < D.lo ∧ k ≠ D.g
  dW : ∀ k, D.vW.ownBlock = some k → k < D.lo ∧ k ≠ D.g
  nIO : ∀ k, D.vI.ownBlock = some k → D.vO.ownBlock ≠ some k
  nIW : ∀ k, D.vI.ownBlock = some k → D.vW.ownBlock ≠ some k
  nOW : ∀ k, D.vO.ownBlock = some k → D.vW.ownBlock ≠ some k
  gB : D.B ≤ D.g ∧ D.g < D.lo ∧ D.lo ≤ D.hi ∧ D.hi ≤ w.heap.size
/-- What stays while the solver is at work. -/
structure SvF (D : SvD) (w w' : World) : Prop where
  below : Below D.B w w'
  mid : ∀ k, D.lo ≤ k → k < D.hi → w'.heap[k]? = w.heap[k]?
theorem SvF.refl (D : SvD) (w : World) : SvF D w w := ⟨Below.refl _ _, fun _ _ _ => rfl⟩


theorem Sv.below {D : SvD} {w w' : World} {vQ : Value} {ins outs : List Int} {ws : List Bool} {q : List Int} (h : Sv D w vQ ins outs ws q) (hb : Below w.heap.size w w') : Sv D w' vQ ins outs ws q ∧ SvF D w w' := by
  obtain ⟨g1, g2, g3, g4⟩ := h.gB
  refine ⟨⟨blk_below h.blk hb, Kd.R_below h.ri hb, Kd.R_below h.ro hb, Kd.R_below h.rw_ hb, Kd.Q_step h.rq (fun k _ hk => hb.block k hk), h.li, h.lo_, h.lw, h.dI, h.dO, h.dW, h.nIO, h.nIW, h.nOW, ⟨g1, g2, g3, Nat.le_trans g4 hb.size⟩⟩, hb.mono (by omega), fun k h1 h2 => hb.block k (by omega)⟩
theorem Sv.drawn {D : SvD} {w w' : World} {vQ : Value} {ins outs : List Int} {ws : List Bool} {q : List Int} (h : Sv D w vQ ins outs ws q) (hd : Drawn0 w w') : Sv D w' vQ ins outs ws q ∧ SvF D w w' := h.below hd.below
theorem SvF.trans' {D : SvD} {w w1 w2 : World} (h : SvF D w w1) (k : SvF D w1 w2) : SvF D w w2 :=
  ⟨h.below.trans k.below, fun q h1 h2 => (k.mid q h1 h2).trans (h.mid q h1 h2)⟩
theorem Sv.setI {D : SvD} {w : World} {vQ : Value} {ins outs : List Int} {ws : List Bool} {q : List Int} (h : Sv D w vQ ins outs ws q) {gi ci : Nat} (e : D.vI = .slice (some ⟨gi, 0, none⟩) D.n ci) (i v : Int) :
    Sv D (w.setCell ⟨gi, i.toNat, none⟩ (.int .u64 v)) vQ (ins.set i.toNat v) outs ws q ∧ SvF D w (w.setCell ⟨gi, i.toNat, none⟩ (.int .u64 v)) := by
  obtain ⟨g1, g2, g3, g4⟩ := h.gB
  have eb : D.vI.ownBlock = some gi := by rw [e]; rfl
  obtain ⟨d1, d2⟩ := h.dI gi eb
  have hB : D.B ≤ gi := Kd.R_base h.ri gi eb
  have hp : Kd.R (Kd.int .u64) 24 (w.setCell ⟨gi, i.toNat, none⟩ (.int .u64 v)) D.B (fun k => D.vI.ownBlock = some k) D.vI (ins.set i.toNat v) := by
    have h1 := h.ri
    have hn : ins.length = D.n := h.li
    rw [e] at h1 ⊢
    exact (Kd.R_putg h1 i v).1
  refine ⟨⟨blk_far (p := ⟨gi, i.toNat, none⟩) h.blk (Ne.symm d2) _, hp, Kd.R_far (p := ⟨gi, i.toNat, none⟩) h.ro (fun k hk c => h.nIO gi eb (by rw [hk, c])) _, Kd.R_far (p := ⟨gi, i.toNat, none⟩) h.rw_ (fun k hk c => h.nIW gi eb (by rw [hk, c])) _, Kd.Q_step h.rq (fun k ho _ => Below.heap_setCell w _ _ k (by show k ≠ gi; omega)), by rw [List.length_set]; exact h.li, h.lo_, h.lw, h.dI, h.dO, h.dW, h.nIO, h.nIW, h.nOW, ⟨g1, g2, g3, by simpa [World.setCell] using g4⟩⟩, (Below.refl _ _).setCell hB _, fun k h1 h2 => Below.heap_setCell w _ _ k (by show k ≠ gi; omega)⟩
theorem Sv.setO {D : SvD} {w : World} {vQ : Value} {ins outs : List Int} {ws : List Bool} {q : List Int} (h : Sv D w vQ ins outs ws q) {gi ci : Nat} (e : D.vO = .slice (some ⟨gi, 0, none⟩) D.n ci) (i v : Int) :
    Sv D (w.setCell ⟨gi, i.toNat, none⟩ (.int .u64 v)) vQ ins (outs.set i.toNat v) ws q ∧ SvF D w (w.setCell ⟨gi, i.toNat, none⟩ (.int .u64 v)) := by
  obtain ⟨g1, g2, g3, g4⟩ := h.gB
  have eb : D.vO.ownBlock = some gi := by rw [e]; rfl
  obtain ⟨d1, d2⟩ := h.dO gi eb
  have hB : D.B ≤ gi := Kd.R_base h.ro gi eb
  have hp : Kd.R (Kd.int .u64) 24 (w.setCell ⟨gi, i.toNat, none⟩ (.int .u64 v)) D.B (fun k => D.vO.ownBlock = some k) D.vO (outs.set i.toNat v) := by
    have h1 := h.ro
    rw [e] at h1 ⊢
    exact (Kd.R_putg h1 i v).1
  refine ⟨⟨blk_far (p := ⟨gi, i.toNat, none⟩) h.blk (Ne.symm d2) _, Kd.R_far (p := ⟨gi, i.toNat, none⟩) h.ri (fun k hk c => h.nIO k hk (by rw [eb, c])) _, hp, Kd.R_far (p := ⟨gi, i.toNat, none⟩) h.rw_ (fun k hk c => h.nOW gi eb (by rw [hk, c])) _, Kd.Q_step h.rq (fun k ho _ => Below.heap_setCell w _ _ k (by show k ≠ gi; omega)), h.li, by rw [List.length_set]; exact h.lo_, h.lw, h.dI, h.dO, h.dW, h.nIO, h.nIW, h.nOW, ⟨g1, g2, g3, by simpa [World.setCell] using g4⟩⟩, (Below.refl _ _).setCell hB _, fun k h1 h2 => Below.heap_setCell w _ _ k (by show k ≠ gi; omega)⟩
theorem Sv.setW {D : SvD} {w : World} {vQ : Value} {ins outs : List Int} {ws : List Bool} {q : List Int} (h : Sv D w vQ ins outs ws q) {gi ci : Nat} (e : D.vW = .slice (some ⟨gi, 0, none⟩) D.n ci) (i : Int) (v : Bool) :
    Sv D (w.setCell ⟨gi, i.toNat, none⟩ (.bool v)) vQ ins outs (ws.set i.toNat v) q ∧ SvF D w (w.setCell ⟨gi, i.toNat, none⟩ (.bool v)) := by
  obtain ⟨g1, g2, g3, g4⟩ := h.gB
  have eb : D.vW.ownBlock = some gi := by rw [e]; rfl
  obtain ⟨d1, d2⟩ := h.dW gi eb
  have hB : D.B ≤ gi := Kd.R_base h.rw_ gi eb
  have hp : Kd.R Kd.bool 4 (w.setCell ⟨gi, i.toNat, none⟩ (.bool v)) D.B (fun k => D.vW.ownBlock = some k) D.vW (ws.set i.toNat v) := by
    have h1 := h.rw_
    rw [e] at h1 ⊢
    exact (Kd.R_putg h1 i v).1
  refine ⟨⟨blk_far (p := ⟨gi, i.toNat, none⟩) h.blk (Ne.symm d2) _, Kd.R_far (p := ⟨gi, i.toNat, none⟩) h.ri (fun k hk c => h.nIW k hk (by rw [eb, c])) _, Kd.R_far (p := ⟨gi, i.toNat, none⟩) h.ro (fun k hk c => h.nOW k hk (by rw [eb, c])) _, hp, Kd.Q_step h.rq (fun k ho _ => Below.heap_setCell w _ _ k (by show k ≠ gi; omega)), h.li, h.lo_, by rw [List.length_set]; exact h.lw, h.dI, h.dO, h.dW, h.nIO, h.nIW, h.nOW, ⟨g1, g2, g3, by simpa [World.setCell] using g4⟩⟩, (Below.refl _ _).setCell hB _, fun k h1 h2 => Below.heap_setCell w _ _ k (by show k ≠ gi; omega)⟩
/-- The row of what waits is another one now (or the same, grown), and lies in the solver's block. -/
theorem Sv.setQ {D : SvD} {w w1 : World} {vQ v1 : Value} {ins outs : List Int} {ws : List Bool} {q q1 : List Int} (h : Sv D w vQ ins outs ws q) {row : Option Nat} (hrow : ∀ k, row = some k → D.hi ≤ k) (hg : w.grownBy w1 row) (h1 : Kd.Q (Kd.int .i64) 3 w1 D.B (fun k => D.hi ≤ k) v1 q1) :
    Sv D (w1.setCell ⟨D.g, 10, none⟩ v1) v1 ins outs ws q1 ∧ SvF D w (w1.setCell ⟨D.g, 10, none⟩ v1) := by
  obtain ⟨g1, g2, g3, g4⟩ := h.gB
  have hne : ∀ k, k < D.hi → some k ≠ row := fun k hk c => by have := hrow k c.symm; omega
  have hblk := blk_grown h.blk hg (hne _ (by omega))
  have rI := Kd.R_grown h.ri hg (fun k hk => hne k (by have := (h.dI k hk).1; omega))
  have rO := Kd.R_grown h.ro hg (fun k hk => hne k (by have := (h.dO k hk).1; omega))
  have rW := Kd.R_grown h.rw_ hg (fun k hk => hne k (by have := (h.dW k hk).1; omega))
  refine ⟨⟨blk_put (cs := svCells D vQ) hblk 10 v1 rfl, Kd.R_far (p := ⟨D.g, 10, none⟩) rI (fun k hk => (h.dI k hk).2) _, Kd.R_far (p := ⟨D.g, 10, none⟩) rO (fun k hk => (h.dO k hk).2) _, Kd.R_far (p := ⟨D.g, 10, none⟩) rW (fun k hk => (h.dW k hk).2) _, Kd.Q_step h1 (fun k ho _ => Below.heap_setCell w1 _ _ k (by show k ≠ D.g; omega)), h.li, h.lo_, h.lw, h.dI, h.dO, h.dW, h.nIO, h.nIW, h.nOW, ⟨g1, g2, g3, by have := hg.size; simp [World.setCell]; omega⟩⟩, ?_, fun k h2 h3 => ?_⟩
  · exact ((Below.refl D.B w).grown hg (by omega) (fun k hk => by have := hrow k hk; omega)).setCell g1 _
  · rw [Below.heap_setCell w1 _ _ k (by show k ≠ D.g; omega)]
    exact hg.block k (by omega) (hne k h3)
def pushI (i : Int) (s : List Bool × List Int) : List Bool × List Int := if s.1.getD i.toNat false = true then s else (s.1.set i.toNat true, s.2 ++ [i])
def SvP (D : SvD) (w : World) (ins outs : List Int) (s : List Bool × List Int) (e : Ending) (w' : World) : Prop := e = .returned (.tuple #[]) ∧ ∃ vQ', Sv D w' vQ' ins outs s.1 s.2 ∧ SvF D w w'
set_option maxHeartbeats 1000000 in
theorem push_any {D : SvD} {w : World} {vQ : Value} {ins outs : List Int} {ws : List Bool} {q : List Int} (h : Sv D w vQ ins outs ws q) (i : Int) (h0 : 0 ≤ i) (h1 : i < (D.n : Int)) (hq : q.length ≤ 1000000) :
    Calls Try.prog 16 #[.pointer (some ⟨D.g, 0, none⟩), .int .i64 i] w (SvP D w ins outs (pushI i (ws, q))) := by
  have hlw := h.lw
  obtain ⟨gw, cw, eW, gwB, gwS, _⟩ := Kd.R_form h.rw_ (by omega)
  rw [hlw] at eW
  obtain ⟨Aq, cq, eQ, hqc⟩ := Kd.Q_slice h.rq
  have hrw := h.rw_
  rw [eW] at hrw
  obtain ⟨hw0, hwf⟩ := Kd.R_celln false hrw i h0 h1
  rw [show rdOf false ws i = ws.getD i.toNat false from rfl] at hw0
  have hcW : w.cell? ⟨D.g, 11, none⟩ = some (.slice (some ⟨gw, 0, none⟩) D.n cw) := (blk_cell h.blk 11).trans (by rw [← eW]; rfl)
  have p0 := eq_true h0
  have p1 := eq_true h1
  by_cases hs : ws.getD i.toNat false = true
  · rw [hs] at hw0
    have HS : pushI i (ws, q) = (ws, q) := if_pos hs
    rw [HS]
    have HH := Aside0.mk h
    clear h hrw hs HS eW eQ hlw hq h0 h1 hqc
    go_enter Try.func16, Try.ntmps16
    go_wp2
    go_end0
    exact ⟨rfl, _, HH.out, SvF.refl _ _⟩
  · have hs' : ws.getD i.toNat false = false := Bool.eq_false_iff.2 hs
    rw [hs'] at hw0
    have HS : pushI i (ws, q) = (ws.set i.toNat true, q ++ [i]) := if_neg hs
    rw [HS]
    have H1 := Aside0.mk (h.setW eW i true)
    have HQ := Aside0.mk hq
    have EQ := Aside0.mk eQ
    clear h hrw hs hs' HS eW eQ hlw hq h0 h1 hqc
    go_enter Try.func16, Try.ntmps16
    go_wp2_with (first | ((with_reducible refine gate_store (t := 4) (p := 17) rfl ?_); refine store_event (t := 4) (p := 17) (v := ?vo_w) (w1 := (w.setCell ⟨gw, i.toNat, none⟩ (.bool true))) ?hg ?ho ?hn ?hr ?_; (case ho => rfl); (case hg => rfl); (case hn => rfl); (case hr => first | (go_simp; done) | (go_simp; rfl)); intro w1 hw; have S1 : Aside0 (Sv D w1 vQ ins outs (ws.set i.toNat true) q ∧ SvF D w w1) := ⟨by rw [hw]; exact H1.out⟩; have hcQ : w1.cell? ⟨D.g, 10, none⟩ = some (.slice Aq q.length cq) := (blk_cell S1.out.1.blk 10).trans (by rw [← EQ.out]; rfl); clear hw H1 hw0 hwf hcW) | ((with_reducible refine gate_builtin (b := .append) (xs := #[.tmp 22, .tmp 24]) rfl ?_); at_builtin; refine Kd.Q_append (Kd.int .i64) (w0 := w1) D.B rfl (.tmp 22) (.tmp 24) 33 3 (.int .i64 0) 8 rfl Try.underlying33 info3 rfl (by decide) (by omega) (.slice Aq q.length cq) q i [.int .i64 i] (fun k => D.hi ≤ k) (fun _ => False) rfl rfl ?aP (fun _ hk => hk.elim) ?aF ?aO ?aB ?aS ?aL ?_; (case aP => exact rfl); (case aF => exact (fun k hk => Nat.le_trans S1.out.1.gB.2.2.2 hk)); (case aO => exact EQ.out ▸ S1.out.1.rq); (case aB => exact Below.refl _ _); (case aS => exact (by have := S1.out.1.gB; omega)); (case aL => exact (by have := HQ.out; omega)); intro v1 wA hq1 hb1 hg1 hat1; obtain ⟨A1, c1, e1, _⟩ := Kd.Q_slice hq1; have S2 := Aside0.mk (S1.out.1.setQ (w1 := wA) (row := (Value.slice Aq q.length cq).ownBlock) (fun k hk => S1.out.1.rq.1 k (by rw [EQ.out]; exact hk)) hg1 hq1); have hcQ2 := (blk_cell (blk_grown S1.out.1.blk hg1 (by have hx := S1.out.1.gB; intro c; have := S1.out.1.rq.1 D.g (by rw [EQ.out]; exact c.symm); omega)) 10); have hfQ2 := (blk_frozen (blk_grown S1.out.1.blk hg1 (by have hx := S1.out.1.gB; intro c; have := S1.out.1.rq.1 D.g (by rw [EQ.out]; exact c.symm); omega)) 10); rw [show (svCells D vQ)[10]? = some vQ from rfl] at hcQ2; subst e1; clear hq1 hb1 hg1 hat1 hcQ))
    have S2o := S2.out
    simp only [List.length_append, List.length_cons, List.length_nil, Nat.zero_add] at S2o
    go_end0
    exact ⟨rfl, _, S2o.1, S1.out.2.trans' S2o.2⟩
/-- A row that is read, now and later. -/
def Fut {α : Type} (d : Kd α) (D : SvD) (w : World) (v : Value) (xs : List α) : Prop := ∃ A c, v = .slice A xs.length c ∧ xs.length ≤ c ∧ ∀ w', SvF D w w' → d.C w' A xs.length xs
theorem Fut.on {α : Type} {d : Kd α} {D : SvD} {w w1 : World} {v : Value} {xs : List α} (h : Fut d D w v xs) (k : SvF D w w1) : Fut d D w1 v xs := by
  obtain ⟨A, c, e, l, f⟩ := h
  exact ⟨A, c, e, l, fun w' hw => f w' (k.trans' hw)⟩
theorem Fut.of_elder {α : Type} {d : Kd α} {D : SvD} {w0 w : World} {A : Option Addr} {c : Nat} {xs : List α} (h : d.C w0 A xs.length xs) (hc : xs.length ≤ c) (hB : D.B = w0.heap.size) (hb : Below w0.heap.size w0 w) : Fut d D w (.slice A xs.length c) xs :=
  ⟨A, c, rfl, hc, fun w' hw => Kd.C_below h (hb.trans (by have := hw.below; rw [hB] at this; exact this))⟩
theorem Fut.of_own {α : Type} {d : Kd α} {D : SvD} {w : World} {e base : Nat} {v : Value} {xs : List α} (h : d.R e w base (fun k => D.lo ≤ k ∧ k < D.hi) v xs) : Fut d D w v xs := by
  obtain ⟨A, c, e1, l, r⟩ := Kd.R_reads h
  refine ⟨A, c, e1, l, fun w' hw => ?_⟩
  obtain ⟨A', c', e2, l', r'⟩ := Kd.R_reads (Kd.R_move (w1 := w') h (fun k hk => hw.mid k hk.1 hk.2))
  rw [e1] at e2
  cases e2
  exact r'
theorem Sv.cell {D : SvD} {w : World} {vQ : Value} {ins outs : List Int} {ws : List Bool} {q : List Int} (h : Sv D w vQ ins outs ws q) (j : Nat) : w.cell? ⟨D.g, j, none⟩ = (svCells D vQ)[j]? := blk_cell h.blk j
def foldI (m : Bool) (outs : List Int) (a : Int) (ks : List Int) : Int := ks.foldl (fun a k => mtI m a (rd outs k)) a
def atI (l : List Int) (i : Int) : Int := if (l.length : Int) ≤ i then 0 else rd l i
def innI (D : SvD) (e : Bool) (fr : List Int) (outs : List Int) : Int := foldI D.must outs (if e = true then mtI D.must (alI D.must) D.st else alI D.must) fr
def outI (gs ks : List Int) (i x : Int) : Int := Go.bits .or .u64 (Go.bits .andNot .u64 x (atI ks i)) (atI gs i)
def pushesI (l : List Int) (s : List Bool × List Int) : List Bool × List Int := l.foldl (fun s k => pushI k s) s
def lookI (D : SvD) (e : Bool) (fr tt gs ks : List Int) (i : Int) (ins outs : List Int) (s : List Bool × List Int) : List Int × List Int × (List Bool × List Int) :=
  if outI gs ks i (innI D e fr outs) = rd outs i then (ins.set i.toNat (innI D e fr outs), outs, s)
  else (ins.set i.toNat (innI D e fr outs), outs.set i.toNat (outI gs ks i (innI D e fr outs)), pushesI tt s)
theorem flow_at_atI (l : List Int) (i : Int) (h0 : 0 ≤ i) : flow_at.f l i = some (atI l i) := by
  unfold flow_at.f atI
  by_cases h : (l.length : Int) ≤ i
  · rw [if_pos h, if_pos h]
  · rw [if_neg h, if_neg h, if_pos h0, if_pos (by omega)]
theorem pushI_len (i : Int) (s : List Bool × List Int) : (pushI i s).2.length ≤ s.2.length + 1 := by
  unfold pushI; split <;> simp
theorem pushesI_snoc (l : List Int) (j : Nat) (hj : j < l.length) (s : List Bool × List Int) : pushesI (l.take (j + 1)) s = pushI (l.getD j 0) (pushesI (l.take j) s) := by
  unfold pushesI
  rw [List.take_add_one, List.foldl_append, List.getD_eq_getElem?_getD, List.getElem?_eq_getElem hj]
  rfl
theorem pushesI_len (l : List Int) : ∀ s, (pushesI l s).2.length ≤ s.2.length + l.length := by
  induction l with
  | nil => intro s; exact Nat.le_refl _
  | cons a l ih =>
    intro s
    have h1 := ih (pushI a s)
    have h2 := pushI_len a s
    have : pushesI (a :: l) s = pushesI l (pushI a s) := rfl
    rw [this, List.length_cons]
    omega
theorem foldI_snoc (m : Bool) (outs : List Int) (a : Int) (l : List Int) (j : Nat) (hj : j < l.length) : foldI m outs a (l.take (j + 1)) = mtI m (foldI m outs a (l.take j)) (rd outs (l.getD j 0)) := by
  unfold foldI
  rw [List.take_add_one, List.foldl_append, List.getD_eq_getElem?_getD, List.getElem?_eq_getElem hj]
  rfl
/-- A row of rows of int. -/
def FutL (D : SvD) (w : World) (v : Value) (xs : List (List Int)) : Prop := ∃ A c, v = .slice A xs.length c ∧ xs.length ≤ c ∧ ∀ i : Int, 0 ≤ i → i < (xs.length : Int) → ∃ ad A1 c1, A = some ad ∧ (rd_L1 xs i).length ≤ c1 ∧ ∀ w', SvF D w w' → w'.cell? (ad.add i.toNat) = some (.slice A1 (rd_L1 xs i).length c1) ∧ (Kd.int .i64).C w' A1 (rd_L1 xs i).length (rd_L1 xs i)
theorem FutL.on {D : SvD} {w w1 : World} {v : Value} {xs : List (List Int)} (h : FutL D w v xs) (k : SvF D w w1) : FutL D w1 v xs := by
  obtain ⟨A, c, e, l, f⟩ := h
  refine ⟨A, c, e, l, fun i h0 h1 => ?_⟩
  obtain ⟨ad, A1, c1, e1, l1, f1⟩ := f i h0 h1
  exact ⟨ad, A1, c1, e1, l1, fun w' hw => f1 w' (k.trans' hw)⟩
theorem FutL.of_elder {D : SvD} {w0 w : World} {A : Option Addr} {c : Nat} {xs : List (List Int)} (h : Kd.C (Kd.slice 3 (Kd.int .i64)) w0 A xs.length xs) (hc : xs.length ≤ c) (hB : D.B = w0.heap.size) (hb : Below w0.heap.size w0 w) : FutL D w (.slice A xs.length c) xs := by
  refine ⟨A, c, rfl, hc, fun i h0 h1 => ?_⟩
  obtain ⟨ad, A1, c1, e1, h2, l1, h3⟩ := at_L1 h i h0 h1
  refine ⟨ad, A1, c1, e1, l1, fun w' hw => ?_⟩
  have hb' : Below w0.heap.size w0 w' := hb.trans (by have := hw.below; rw [hB] at this; exact this)
  exact ⟨pw_cell_below hb' h2, Kd.C_below h3 hb'⟩
theorem cell_heap {w w1 : World} {p : Addr} (h : w1.heap[p.block]? = w.heap[p.block]?) : w1.cell? p = w.cell? p := by
  unfold World.cell?
  rw [h]
theorem FutL.of_own {D : SvD} {w : World} {e base : Nat} {v : Value} {xs : List (List Int)} (h : Kd.R (Kd.slice 3 (Kd.int .i64)) e w base (fun k => D.lo ≤ k ∧ k < D.hi) v xs) : FutL D w v xs := by
  obtain ⟨A, c, e1, l, r⟩ := Kd.R_reads h
  refine ⟨A, c, e1, l, fun i h0 h1 => ?_⟩
  obtain ⟨g, cp, e2, _⟩ := Kd.R_form h (by omega)
  rw [e1] at e2
  cases e2
  have hg := h.1 g (by rw [e1]; rfl)
  obtain ⟨ad, A1, c1, e3, h2, l1, h3⟩ := at_L1 r i h0 h1
  cases e3
  refine ⟨_, A1, c1, rfl, l1, fun w' hw => ?_⟩
  have hcell : w'.cell? ((⟨g, 0, none⟩ : Addr).add i.toNat) = w.cell? ((⟨g, 0, none⟩ : Addr).add i.toNat) := by
    rw [add_plain]
    exact cell_heap (hw.mid g hg.1 hg.2)
  obtain ⟨A', c', e4, _, r'⟩ := Kd.R_reads (Kd.R_move (w1 := w') h (fun k hk => hw.mid k hk.1 hk.2))
  rw [e1] at e4
  cases e4
  obtain ⟨ad', A1', c1', e5, h2', l1', h3'⟩ := at_L1 r' i h0 h1
  cases e5
  rw [hcell, h2] at h2'
  cases h2'
  exact ⟨hcell.trans h2, h3'⟩
/-- What the walk reads in the solver's block. -/
structure SvC (D : SvD) (w : World) (vQ : Value) (adF adT : Addr) (cF cT : Nat) (AG AK : Option Addr) (lG lK cG cK gI gO cI cO : Nat) : Prop where
  c1 : w.cell? ⟨D.g, 1, none⟩ = some (.slice AG lG cG)
  c2 : w.cell? ⟨D.g, 2, none⟩ = some (.slice AK lK cK)
  c3 : w.cell? ⟨D.g, 3, none⟩ = some (.int .u64 D.st)
  c4 : w.cell? ⟨D.g, 4, none⟩ = some (.bool D.must)
  c6 : w.cell? ⟨D.g, 6, none⟩ = some (.slice (some adF) D.n cF)
  c7 : w.cell? ⟨D.g, 7, none⟩ = some (.slice (some adT) D.n cT)
  c8 : w.cell? ⟨D.g, 8, none⟩ = some (.slice (some ⟨gI, 0, none⟩) D.n cI)
  c9 : w.cell? ⟨D.g, 9, none⟩ = some (.slice (some ⟨gO, 0, none⟩) D.n cO)
theorem Sv.cells {D : SvD} {w : World} {vQ : Value} {ins outs : List Int} {ws : List Bool} {q : List Int} (h : Sv D w vQ ins outs ws q) {adF adT : Addr} {cF cT : Nat} {AG AK : Option Addr} {lG lK cG cK gI gO cI cO : Nat}
    (eG : D.vG = .slice AG lG cG) (eK : D.vK = .slice AK lK cK) (eF : D.vF = .slice (some adF) D.n cF) (eT : D.vT = .slice (some adT) D.n cT) (eI : D.vI = .slice (some ⟨gI, 0, none⟩) D.n cI) (eO : D.vO = .slice (some ⟨gO, 0, none⟩) D.n cO) : SvC D w vQ adF adT cF cT AG AK lG lK cG cK gI gO cI cO :=
  ⟨(h.cell 1).trans (congrArg some eG), (h.cell 2).trans (congrArg some eK), h.cell 3, h.cell 4, (h.cell 6).trans (congrArg some eF), (h.cell 7).trans (congrArg some eT), (h.cell 8).trans (congrArg some eI), (h.cell 9).trans (congrArg some eO)⟩
def LookP (D : SvD) (w : World) (L : List Int × List Int × (List Bool × List Int)) (e : Ending) (w' : World) : Prop := e = .returned (.tuple #[]) ∧ ∃ vQ', Sv D w' vQ' L.1 L.2.1 L.2.2.1 L.2.2.2 ∧ SvF D w w'
set_option maxHeartbeats 4000000 in
set_option maxRecDepth 100000 in
theorem look_any {D : SvD} {w : World} {vQ : Value} {ins outs : List Int} {ws : List Bool} {q : List Int} (h : Sv D w vQ ins outs ws q) (k : Nat) (ss fr tt : List (List Int)) (gs ks : List Int)
    (hS : Fut (Kd.slice 3 (Kd.int .i64)) D w D.vS ss) (hF : FutL D w D.vF fr) (hT : FutL D w D.vT tt) (hG : Fut (Kd.int .u64) D w D.vG gs) (hK : Fut (Kd.int .u64) D w D.vK ks)
    (lS : ss.length = D.n) (lF : fr.length = D.n) (lT : tt.length = D.n) (i : Int) (h0 : 0 ≤ i) (h1 : i < (D.n : Int)) (e : Bool)
    (he : if D.back = true then slices_Contains_int_int.f k (rd_L1 ss i) (ss.length : Int) = some e else e = (i == 0))
    (rF : ∀ j, j < (rd_L1 fr i).length → 0 ≤ (rd_L1 fr i).getD j 0 ∧ (rd_L1 fr i).getD j 0 < (D.n : Int)) (rT : ∀ j, j < (rd_L1 tt i).length → 0 ≤ (rd_L1 tt i).getD j 0 ∧ (rd_L1 tt i).getD j 0 < (D.n : Int)) (hq : q.length + (rd_L1 tt i).length ≤ 1000000) :
    Calls Try.prog 17 #[.pointer (some ⟨D.g, 0, none⟩), .int .i64 i] w (LookP D w (lookI D e (rd_L1 fr i) (rd_L1 tt i) gs ks i ins outs (ws, q))) := by
  obtain ⟨gI, cI, eI, _⟩ := Kd.R_form h.ri (by have := h.li; omega)
  obtain ⟨gO, cO, eO, _⟩ := Kd.R_form h.ro (by have := h.lo_; omega)
  rw [h.li] at eI
  rw [h.lo_] at eO
  obtain ⟨AS, cS, eS, hcS, FS⟩ := hS
  obtain ⟨AF, cF, eF, hcF, FF⟩ := hF
  obtain ⟨AT, cT, eT, hcT, FT⟩ := hT
  obtain ⟨AG, cG, eG, hcG, FG⟩ := hG
  obtain ⟨AK, cK, eK, hcK, FK⟩ := hK
  obtain ⟨adF, A1, c1, e1, hl1, AF'⟩ := FF i h0 (by omega)
  obtain ⟨adT, A2, c2, e2, hl2, AT'⟩ := FT i h0 (by omega)
  subst e1
  subst e2
  have EE : ∀ w', SvF D w w' → ∀ v', Sv D w' v' ins outs ws q → Calls Try.prog 24 #[.pointer (some ⟨D.g, 0, none⟩), .int .i64 i] w' fun e' w'' => e' = .returned (.bool e) ∧ Drawn0 w' w'' := fun w' hw v' hs => edge_any k w' D.g D.back AS cS ss i e (hs.cell 5) ((hs.cell 0).trans (congrArg some eS)) (FS w' hw) h0 (by omega) he
  rw [lF] at eF
  rw [lT] at eT
  have HCE : ∀ w' v' ins' outs' ws' q', Sv D w' v' ins' outs' ws' q' → SvC D w' v' adF adT cF cT AG AK gs.length ks.length cG cK gI gO cI cO := fun w' v' _ _ _ _ hs => hs.cells eG eK eF eT eI eO
  have HO : ∀ w' v' ins' outs' ws' q', Sv D w' v' ins' outs' ws' q' → ∀ j : Int, 0 ≤ j → j < (D.n : Int) → w'.cell? ⟨gO, j.toNat, none⟩ = some (.int .u64 (rd outs' j)) ∧ w'.frozen? ⟨gO, j.toNat, none⟩ = false := fun w' v' _ _ _ _ hs j hj0 hj1 => by
    have hr := hs.ro
    rw [eO] at hr
    exact Kd.R_celln 0 hr j hj0 hj1
  have HI : ∀ w' v' ins' outs' ws' q', Sv D w' v' ins' outs' ws' q' → ∀ j : Int, 0 ≤ j → j < (D.n : Int) → w'.cell? ⟨gI, j.toNat, none⟩ = some (.int .u64 (rd ins' j)) ∧ w'.frozen? ⟨gI, j.toNat, none⟩ = false := fun w' v' _ _ _ _ hs j hj0 hj1 => by
    have hr := hs.ri
    rw [eI] at hr
    exact Kd.R_celln 0 hr j hj0 hj1
  have p0 := eq_true h0
  have p1 := eq_true h1
  have S0 := Aside0.mk (And.intro h (SvF.refl D w))
  have FG' := Aside0.mk FG
  have FK' := Aside0.mk FK
  have HAG := Aside0.mk (flow_at_atI gs i h0)
  have HAK := Aside0.mk (flow_at_atI ks i h0)
  have EI := Aside0.mk eI
  have EO := Aside0.mk eO
  replace EE := Aside0.mk EE
  replace HCE := Aside0.mk HCE
  replace HO := Aside0.mk HO
  replace HI := Aside0.mk HI
  replace AF' := Aside0.mk AF'
  replace AT' := Aside0.mk AT'
  replace rF := Aside0.mk rF
  replace rT := Aside0.mk rT
  have HQ := Aside0.mk hq
  have h0' := Aside0.mk h0
  have h1' := Aside0.mk h1
  replace hcG := Aside0.mk hcG
  replace hcK := Aside0.mk hcK
  have HXX : innI D e (rd_L1 fr i) outs = foldI D.must outs (if e = true then mtI D.must (alI D.must) D.st else alI D.must) (rd_L1 fr i) := rfl
  obtain ⟨X, hX⟩ : ∃ X, X = innI D e (rd_L1 fr i) outs := ⟨_, rfl⟩
  obtain ⟨Y, hY⟩ : ∃ Y, Y = outI gs ks i X := ⟨_, rfl⟩
  have HL : lookI D e (rd_L1 fr i) (rd_L1 tt i) gs ks i ins outs (ws, q) = if Y = rd outs i then (ins.set i.toNat X, outs, (ws, q)) else (ins.set i.toNat X, outs.set i.toNat Y, pushesI (rd_L1 tt i) (ws, q)) := by rw [hY, hX]; rfl
  rw [← hX] at HXX
  generalize lookI D e (rd_L1 fr i) (rd_L1 tt i) gs ks i ins outs (ws, q) = L at HL ⊢
  replace HL := Aside0.mk HL
  clear hX
  have HX := Aside0.mk HXX
  unfold outI at hY
  have HY := Aside0.mk hY.symm
  clear h eI eO eS eF eT eG eK FG FK FF FT FS hcS hcF hcT he h0 h1 hq HXX lS lF lT hY
  generalize rd_L1 fr i = R at *
  generalize rd_L1 tt i = T at *
  cases e
  all_goals
    go_enter Try.func17, Try.ntmps17
    have C0 := HCE.out _ _ _ _ _ _ S0.out.1
    have hc4 := C0.c4
    have hc3 := C0.c3
    clear C0
    go_wp2_with (first | (go_at_call 15; refine (all_any _ D.g D.must hc4).mono ?_; rintro e w1 ⟨rfl, hd⟩; have S1 := Aside0.mk (And.intro (S0.out.1.drawn hd).1 (S0.out.2.trans' (S0.out.1.drawn hd).2)); clear hd S0; have S0 := S1; clear S1 hc3 hc4) | (go_at_call 24; refine (EE.out _ S0.out.2 _ S0.out.1).mono ?_; rintro e w2 ⟨rfl, hd⟩; have S1 := Aside0.mk (And.intro (S0.out.1.drawn hd).1 (S0.out.2.trans' (S0.out.1.drawn hd).2)); clear hd S0; have S0 := S1; clear S1; have C0 := HCE.out _ _ _ _ _ _ S0.out.1; have hc4 := C0.c4; have hc3 := C0.c3; have hc6 := C0.c6; have hc9 := C0.c9; clear C0; have ha1 := (AF'.out _ S0.out.2).1) | (go_at_call 25; refine (meet_any _ D.g D.must _ _ hc4).mono ?_; rintro e w' ⟨rfl, rfl⟩))
    have HR1 := Aside0.mk (AF'.out _ S0.out.2).2
    have hm := Kd.C_max HR1.out
    go_loopw [4, 31] (fun v4 v31 wr => ∃ (j : Nat) (x : Int), j ≤ R.length ∧ v31 = .int .i64 (j : Int) ∧ v4 = .int .u64 x ∧ Aside0 (X = foldI D.must outs x (R.drop j)) ∧ Aside0 (Sv D wr vQ ins outs ws q ∧ SvF D w wr)) (fun v4 v31 _ => R.length - (intOf v31).toNat)
    case atStart => exact ⟨0, _, Nat.zero_le _, rfl, rfl, HX, S0⟩
    case round =>
      clear HX S0 hc4 hc3 hc6 hc9 ha1 HR1
      obtain ⟨j, x, hj, rfl, rfl, HX, S0⟩ := hrel
      have C0 := HCE.out _ _ _ _ _ _ S0.out.1
      by_cases hlt : j < R.length
      · have hc4 := C0.c4
        have hc9 := C0.c9
        clear C0
        obtain ⟨ad1, e1, hx1⟩ := Kd.at_int (AF'.out _ S0.out.2).2 (j : Int) (by omega) (by omega)
        cases e1
        rw [Int.toNat_natCast] at hx1
        have hk := rF.out j hlt
        have hdr : R.drop j = R.getD j 0 :: R.drop (j + 1) := by rw [List.drop_eq_getElem_cons hlt, List.getD_eq_getElem?_getD, List.getElem?_eq_getElem hlt]; rfl
        have HX1 := HX.out
        rw [hdr] at HX1
        have erd : rd R (j : Int) = R.getD j 0 := by unfold rd; rw [Int.toNat_natCast]
        rw [erd] at hx1
        generalize R.getD j 0 = kk at hk HX1 hx1
        have HX2 := Aside0.mk (show X = foldI D.must outs (mtI D.must x (rd outs kk)) (R.drop (j + 1)) from HX1)
        have ho := (HO.out _ _ _ _ _ _ S0.out.1 kk hk.1 hk.2).1
        have pk0 := eq_true hk.1
        have pk1 := eq_true hk.2
        clear HX HX1 hdr erd hk
        go_wp2_with (go_at_call 25; refine (meet_any _ D.g D.must _ _ hc4).mono ?_; rintro e w' ⟨rfl, rfl⟩)
        go_roundw
        case rel => exact ⟨j + 1, _, by omega, by go_num, rfl, HX2, S0⟩
        case measure => simp [intOf]; omega
      · obtain rfl : j = R.length := by omega
        have hx := HX.out
        rw [List.drop_eq_nil_of_le (Nat.le_refl _)] at hx
        obtain rfl : X = x := hx
        clear HX
        have hc8 := C0.c8
        clear C0
        obtain ⟨hi0, hif⟩ := HI.out _ _ _ _ _ _ S0.out.1 i h0'.out h1'.out
        by_cases hy : Y = rd outs i
        · have HY2 := Aside0.mk hy
          have dy : (Go.bits .or .u64 (Go.bits .andNot .u64 X (atI ks i)) (atI gs i) == rd outs i) = true := by rw [HY.out]; exact beq_iff_eq.2 hy
          clear hy
          go_wp2_with (first | ((with_reducible refine gate_store (t := 24) (p := 52) rfl ?_); refine store_event (t := 24) (p := 52) (v := ?vo_w) (w1 := (wr.setCell ⟨gI, i.toNat, none⟩ (.int .u64 X))) ?hg ?ho ?hn ?hr ?_; (case ho => rfl); (case hg => rfl); (case hn => rfl); (case hr => first | (go_simp; done) | (go_simp; rfl)); intro w3 hw; have S3 : Aside0 (Sv D w3 vQ (ins.set i.toNat X) outs ws q ∧ SvF D w w3) := ⟨by rw [hw]; exact ⟨(S0.out.1.setI EI.out i X).1, S0.out.2.trans' (S0.out.1.setI EI.out i X).2⟩⟩; clear hw hi0 hif hc8; have C0 := HCE.out _ _ _ _ _ _ S3.out.1; have hc1 := C0.c1; have hc2 := C0.c2; have hc9 := C0.c9; have ho3 := (HO.out _ _ _ _ _ _ S3.out.1 i h0'.out h1'.out).1; clear C0))
          go_quiet (first | (go_at_call 26; (first | (with_reducible refine (flow_at.calls AK cK ks i (atI ks i) _ ?side1 ?side2 HAK.out).mono ?_) | (with_reducible refine (flow_at.calls AG cG gs i (atI gs i) _ ?side1 ?side2 HAG.out).mono ?_)); (case side1 => repeat (first | exact FK'.out _ S3.out.2 | exact FG'.out _ S3.out.2 | (with_reducible refine Kd.C_drewN ?_ _) | (with_reducible refine Kd.C_drew ?_))); (case side2 => first | exact hcK.out | exact hcG.out); rintro e w' ⟨rfl, ⟨nd, rfl⟩⟩; (try first | exact ⟨rfl, _, World.drewN_drewN _ _ _⟩ | exact ⟨rfl, _, Eq.trans (World.drewN_drewN _ _ _) (congrArg (World.drewN _) (Nat.add_assoc _ _ _))⟩)))
          go_wp2
          (try simp only [Exit.inBlock, Exit.then])
          refine bodyPost_ret (results_none rfl _ _ _) rfl ?_
          exact ⟨rfl, vQ, by rw [HL.out, if_pos HY2.out]; exact (S3.out.1.drawn ⟨_, rfl⟩).1, S3.out.2.trans' (S3.out.1.drawn ⟨_, rfl⟩).2⟩
        · have HY2 := Aside0.mk hy
          have dy : (Go.bits .or .u64 (Go.bits .andNot .u64 X (atI ks i)) (atI gs i) == rd outs i) = false := by rw [HY.out]; exact beq_eq_false_iff_ne.2 hy
          clear hy
          go_wp2_with (first | ((with_reducible refine gate_store (t := 24) (p := 52) rfl ?_); refine store_event (t := 24) (p := 52) (v := ?vo_w) (w1 := (wr.setCell ⟨gI, i.toNat, none⟩ (.int .u64 X))) ?hg ?ho ?hn ?hr ?_; (case ho => rfl); (case hg => rfl); (case hn => rfl); (case hr => first | (go_simp; done) | (go_simp; rfl)); intro w3 hw; have S3 : Aside0 (Sv D w3 vQ (ins.set i.toNat X) outs ws q ∧ SvF D w w3) := ⟨by rw [hw]; exact ⟨(S0.out.1.setI EI.out i X).1, S0.out.2.trans' (S0.out.1.setI EI.out i X).2⟩⟩; clear hw hi0 hif hc8; have C0 := HCE.out _ _ _ _ _ _ S3.out.1; have hc1 := C0.c1; have hc2 := C0.c2; have hc9 := C0.c9; have ho3 := (HO.out _ _ _ _ _ _ S3.out.1 i h0'.out h1'.out).1; clear C0))
          go_quiet (first | (go_at_call 26; (first | (with_reducible refine (flow_at.calls AK cK ks i (atI ks i) _ ?side1 ?side2 HAK.out).mono ?_) | (with_reducible refine (flow_at.calls AG cG gs i (atI gs i) _ ?side1 ?side2 HAG.out).mono ?_)); (case side1 => repeat (first | exact FK'.out _ S3.out.2 | exact FG'.out _ S3.out.2 | (with_reducible refine Kd.C_drewN ?_ _) | (with_reducible refine Kd.C_drew ?_))); (case side2 => first | exact hcK.out | exact hcG.out); rintro e w' ⟨rfl, ⟨nd, rfl⟩⟩; (try first | exact ⟨rfl, _, World.drewN_drewN _ _ _⟩ | exact ⟨rfl, _, Eq.trans (World.drewN_drewN _ _ _) (congrArg (World.drewN _) (Nat.add_assoc _ _ _))⟩)))
          have S4 := Aside0.mk (And.intro (S3.out.1.drawn ⟨nq, rfl⟩).1 (S3.out.2.trans' (S3.out.1.drawn ⟨nq, rfl⟩).2))
          clear S3
          obtain ⟨_, hof⟩ := HO.out _ _ _ _ _ _ S4.out.1 i h0'.out h1'.out
          generalize w3.drewN nq = w4 at *
          have hc8 := (HCE.out _ _ _ _ _ _ S4.out.1)
          have hc9 := hc8.c9
          have hc7 := hc8.c7
          clear hc8
          go_wp2_with (first | ((with_reducible refine gate_store (t := 24) (p := 85) rfl ?_); refine store_event (t := 24) (p := 85) (v := ?vo_w2) (w1 := (w4.setCell ⟨gO, i.toNat, none⟩ (.int .u64 (Go.bits .or .u64 (Go.bits .andNot .u64 X (atI ks i)) (atI gs i))))) ?hg ?ho ?hn ?hr ?_; (case ho => rfl); (case hg => rfl); (case hn => rfl); (case hr => first | (go_simp; done) | (go_simp; rfl)); intro w5 hw; have S5 : Aside0 (Sv D w5 vQ (ins.set i.toNat X) (outs.set i.toNat Y) ws q ∧ SvF D w w5) := ⟨by rw [hw, HY.out]; exact ⟨(S4.out.1.setO EO.out i Y).1, S4.out.2.trans' (S4.out.1.setO EO.out i Y).2⟩⟩; clear hw hof; have C0 := HCE.out _ _ _ _ _ _ S5.out.1; have hc7 := C0.c7; have ha2 := (AT'.out _ S5.out.2).1; clear C0))
          have S6 : Aside0 (Sv D w5 vQ (ins.set i.toNat X) (outs.set i.toNat Y) (pushesI (T.take 0) (ws, q)).1 (pushesI (T.take 0) (ws, q)).2 ∧ SvF D w w5) := S5
          have hmT := Kd.C_max (AT'.out _ S5.out.2).2
          go_loopw [94] (fun v94 wr => ∃ (j : Nat) (vq : Value), j ≤ T.length ∧ v94 = .int .i64 (j : Int) ∧ Aside0 (Sv D wr vq (ins.set i.toNat X) (outs.set i.toNat Y) (pushesI (T.take j) (ws, q)).1 (pushesI (T.take j) (ws, q)).2 ∧ SvF D w wr)) (fun v94 _ => T.length - (intOf v94).toNat)
          case atStart => exact ⟨0, _, Nat.zero_le _, rfl, S6⟩
          case round =>
            clear S4 S5 S6 hc7 ha2
            obtain ⟨jt, vq, hjt, rfl, S6⟩ := hrel
            by_cases hltT : jt < T.length
            · obtain ⟨ad2, e2, hx2⟩ := Kd.at_int (AT'.out _ S6.out.2).2 (jt : Int) (by omega) (by omega)
              cases e2
              rw [Int.toNat_natCast] at hx2
              have hk := rT.out jt hltT
              have hsn := pushesI_snoc T jt hltT (ws, q)
              have hqn := pushesI_len (T.take jt) (ws, q)
              rw [List.length_take] at hqn
              have hq' := HQ.out
              have hqm : (pushesI (T.take jt) (ws, q)).2.length ≤ 1000000 := by
                have : min jt T.length ≤ T.length := Nat.min_le_right _ _
                have h3 : (ws, q).2.length = q.length := rfl
                omega
              have erd : rd T (jt : Int) = T.getD jt 0 := by unfold rd; rw [Int.toNat_natCast]
              rw [erd] at hx2
              have HSN := Aside0.mk hsn
              have HQM := Aside0.mk hqm
              clear hsn hqn hqm hq' erd
              generalize T.getD jt 0 = kk at hk HSN hx2
              have HK := Aside0.mk hk
              clear hk
              go_wp2_with (go_at_call 16; refine (push_any S6.out.1 kk HK.out.1 HK.out.2 HQM.out).mono ?_; rintro e w' ⟨rfl, vq1, hs, hf⟩; have S7 : Aside0 (Sv D w' vq1 (ins.set i.toNat X) (outs.set i.toNat Y) (pushesI (T.take (jt + 1)) (ws, q)).1 (pushesI (T.take (jt + 1)) (ws, q)).2 ∧ SvF D w w') := ⟨by rw [HSN.out]; exact ⟨hs, S6.out.2.trans' hf⟩⟩; clear hs hf)
              go_roundw
              case rel => exact ⟨jt + 1, _, by omega, by go_num, S7⟩
              case measure => simp [intOf]; omega
            · obtain rfl : jt = T.length := by omega
              have S7 : Aside0 (Sv D wr vq (ins.set i.toNat X) (outs.set i.toNat Y) (pushesI T (ws, q)).1 (pushesI T (ws, q)).2 ∧ SvF D w wr) := ⟨by have := S6.out; rwa [List.take_length] at this⟩
              go_wp2
              go_end0
              exact ⟨rfl, vq, by rw [HL.out, if_neg HY2.out]; exact S7.out.1, S7.out.2⟩
def outB (n : Nat) (x : Int) : Bool := decide (x < 0) || decide ((n : Int) ≤ x)
set_option maxHeartbeats 1000000 in
theorem inside1_gives (A : Option Addr) (n c : Nat) (x : Int) (gB : Nat) (W : World) (hc : W.cell? ⟨gB, 0, none⟩ = some (.slice A n c)) : Go.Proofs.FnGives Try.prog 22 #[.pointer (some ⟨gB, 0, none⟩)] #[.int .i64 x] (.bool (outB n x)) W := by
  show Calls Try.prog 22 #[.int .i64 x, .pointer (some ⟨gB, 0, none⟩)] W _
  unfold outB
  by_cases h0 : x < 0
  · have d0 : decide (x < 0) = true := decide_eq_true h0
    rw [d0, Bool.true_or]
    clear h0
    go_enter Try.func22, Try.ntmps22
    go_wp2
    all_goals (go_ret; exact ⟨by simp_all, 0, rfl⟩)
  · have d0 : decide (x < 0) = false := decide_eq_false h0
    rw [d0, Bool.false_or]
    clear h0
    go_enter Try.func22, Try.ntmps22
    go_wp2
    all_goals (go_ret; exact ⟨by simp_all, 0, rfl⟩)
theorem putRow_heap_ne (enc : Int → Value) (w : World) (q blk off : Nat) (d : Array Int) (k : Nat) (h : k ≠ blk) : (Go.Sort.putRow enc (Go.Sort.ahead w q) blk off d).heap[k]? = w.heap[k]? := by
  unfold Go.Sort.putRow Go.Sort.mapBlock Go.Sort.ahead
  simp only [Array.getElem?_modify]
  rw [if_neg (fun e => h e.symm)]
theorem putRow_heap_eq (enc : Int → Value) (w : World) (q blk : Nat) (d : Array Int) {cur : Array Value} {e : TypeId} (h : w.heap[blk]? = some (.cells cur e (0, 0))) : (Go.Sort.putRow enc (Go.Sort.ahead w q) blk 0 d).heap[blk]? = some (.cells (Go.Sort.putCells enc 0 d cur) e (0, 0)) := by
  unfold Go.Sort.putRow Go.Sort.mapBlock Go.Sort.ahead
  simp only [Array.getElem?_modify, if_true, h, Option.map_some, Go.Sort.onCells]
theorem putCells_size (enc : Int → Value) (d : Array Int) (cur : Array Value) : (Go.Sort.putCells enc 0 d cur).size = cur.size := by unfold Go.Sort.putCells; simp
theorem putCells_take (enc : Int → Value) (l t : List Int) (cur : Array Value) (h : l.length + t.length ≤ cur.size) : (Go.Sort.putCells enc 0 (l ++ t).toArray cur).toList.take l.length = l.map enc := by
  apply List.ext_getElem?
  intro i
  rw [List.getElem?_take]
  by_cases hi : i < l.length
  · rw [if_pos hi, List.getElem?_map, Array.getElem?_toList]
    unfold Go.Sort.putCells
    rw [Array.getElem?_mapIdx, Array.getElem?_eq_getElem (by omega), List.getElem?_eq_getElem hi]
    simp only [Option.map_some]
    rw [if_pos (by constructor; omega; simp; omega)]
    rw [getElem!_pos _ _ (by simp; omega)]
    simp [List.getElem_append_left hi]
  · rw [if_neg hi, List.getElem?_eq_none (by simpa using hi)]
theorem delete_any {w : World} {base : Nat} {ok : Nat → Prop} {v : Value} {l : List Int} (hR : Kd.R (Kd.int .i64) 3 w base ok v l) (A : Option Addr) (n c gB : Nat) (hc : w.cell? ⟨gB, 0, none⟩ = some (.slice A n c)) (hne : ∀ k, v.ownBlock = some k → k ≠ gB) (hsome : v.ownBlock.isSome = true) :
    Calls Try.prog 20 #[v, .func (.func 22) #[] #[.pointer (some ⟨gB, 0, none⟩)]] w fun e w' => ∃ v', e = .returned v' ∧ Kd.R (Kd.int .i64) 3 w' base ok v' (l.filter fun x => !outB n x) ∧ w.grownBy w' v.ownBlock ∧ v'.ownBlock = v.ownBlock := by
  obtain ⟨hok, inner, hown, hr⟩ := hR
  rcases hown.2 with ⟨e1, _⟩ | ⟨g, cap, cur, rfl, hg, hh, hnc, hcm, hcs, htake⟩
  · rw [e1] at hsome; simp [Value.ownBlock] at hsome
  have hsz : l.length ≤ 9223372036854775807 := Nat.le_trans hnc hcm
  have hgl : g < w.heap.size := (Array.getElem?_eq_some_iff.1 hh).1
  have hBl : gB < w.heap.size := World.block_lt_of_cell? w ⟨gB, 0, none⟩ hc
  have hgB : gB ≠ g := Ne.symm (hne g rfl)
  have hR' : Kd.R (Kd.int .i64) 3 w base ok (.slice (some ⟨g, 0, none⟩) l.length cap) l := ⟨hok, inner, hown, hr⟩
  have hH : Go.Sort.Holds (Value.int .i64) w g 0 l.toArray := fun j hj => by
    have hj' : j < l.length := by simpa using hj
    obtain ⟨h1, h2⟩ := Kd.R_celln (0 : Int) hR' (j : Int) (by omega) (by omega)
    rw [Int.toNat_natCast] at h1 h2
    rw [Nat.zero_add]
    refine ⟨h1.trans ?_, h2⟩
    rw [getElem!_pos _ _ (by simpa using hj)]
    unfold rdOf
    rw [Int.toNat_natCast, List.getD_eq_getElem?_getD, List.getElem?_eq_getElem hj']
    simp
  have eg : ∀ args w, (callFunc 22 args).run Try.prog w = .ok (.enter 22 args) w := enters_of Try.func22 (by kernel_rfl) rfl
  have hat : Go.Proofs.PredAt Try.prog 22 #[.pointer (some ⟨gB, 0, none⟩)] (Value.int .i64) (outB n) w := fun W x hb => inside1_gives A n c x gB W ((hb.cell (p := ⟨gB, 0, none⟩) hBl).trans hc)
  have hov : Go.Proofs.PredOver Try.prog 22 #[.pointer (some ⟨gB, 0, none⟩)] (Value.int .i64) (outB n) g 0 l.toArray.size w := fun m os dk x _ => inside1_gives A n c x gB _ (by
    unfold Go.Proofs.sortWorld
    rw [Go.Sort.cell?_grow _ _ _ (by show gB < (Go.Sort.putRow _ _ _ _ _).heap.size; rw [Go.Sort.size_putRow]; exact hBl), Go.Sort.cell?_putRow_other _ _ g 0 _ _ (Or.inl hgB)]
    exact hc)
  have hcon := Go.Proofs.AnyE.slices_DeleteFunc slDel10 (Value.int .i64) (fun _ => rfl) (outB n) 22 #[.pointer (some ⟨gB, 0, none⟩)] eg 0 Try.zeroValue3 g 0 cap l.toArray w hat hov hH (by simpa using hsz) (by simpa using hnc)
  change Calls Try.prog 20 _ _ _ at hcon
  simp only [List.size_toArray] at hcon
  refine hcon.mono ?_
  rintro e w' ⟨rfl, q, rfl⟩
  have hfl : (l.filter fun x => !outB n x).length ≤ l.length := List.length_filter_le _ _
  refine ⟨_, rfl, ⟨hok, (l.filter fun x => !outB n x).map (Value.int .i64), ⟨by rw [List.length_map]; exact (Nat.mul_one _).symm, .inr ⟨g, cap, _, rfl, hg, putRow_heap_eq _ _ _ _ _ hh, by omega, hcm, by rw [putCells_size]; exact hcs, ?_⟩⟩, ?_⟩, ⟨rfl, rfl, rfl, ?_, fun k hk hk2 => putRow_heap_ne _ _ _ _ _ _ _ (fun e => hk2 (by rw [e]; rfl))⟩, rfl⟩
  · show List.take ((l.filter fun x => !outB n x).length * 1) _ = _
    rw [Nat.mul_one]
    exact putCells_take _ _ _ _ (by rw [List.length_replicate]; have : cur.size = cap := hcs.trans (Nat.mul_one _)
                                    omega)
  · refine ⟨by rw [List.length_map]; exact (Nat.mul_one _).symm, fun j p hp => ?_⟩
    show List.take 1 (List.drop (j * 1) _) = [Value.int .i64 p]
    rw [Nat.mul_one]
    obtain ⟨hj, rfl⟩ := List.getElem?_eq_some_iff.1 hp
    rw [← List.getElem_cons_drop (by rw [List.length_map]; exact hj)]
    simp
  · show w.heap.size ≤ (Go.Sort.putRow _ _ _ _ _).heap.size
    rw [Go.Sort.size_putRow]
    exact Nat.le_refl _
set_option maxHeartbeats 1000000 in
set_option maxRecDepth 100000 in
theorem cloneI_any (A : Option Addr) (c : Nat) (l : List Int) (w : World) (hr : Kd.C (Kd.int .i64) w A l.length l) (hc : l.length ≤ c) (hl : l.length ≤ 1000000) :
    Calls Try.prog 21 #[.slice A l.length c] w fun e w' => ∃ v, e = .returned v ∧ Kd.R (Kd.int .i64) 3 w' w.heap.size (fun _ => True) v l ∧ Below w.heap.size w w' := by
  cases A with
  | none =>
    have h0 : l = [] := by
      cases l with
      | nil => rfl
      | cons x t =>
        obtain ⟨ad, _, e, _⟩ := Kd.C_get hr (0 : Int) (0 : Int) (by omega) (by rw [List.length_cons]; omega)
        cases e
    subst h0
    have hq : ∀ (w : World) (a : Option Addr) (n c n' c' : Nat), (binOp .eql 33 (.slice a n c) (.slice none n' c')).run Try.prog w = .ok (.bool a.isNone) w := fun w a n c n' c' => Lib.run_eql_slice_nil w _ _ a n c n' c' Try.underlying33
    go_enter Try.func21, Try.ntmps21
    go_wp2
    go_ret
    exact ⟨_, rfl, Kd.R_nil _ _ _ _ _, Below.refl _ _⟩
  | some ad =>
    have HR := Aside0.mk hr
    have HB := Aside0.mk (Below.refl w.heap.size w)
    clear hr
    have hq : ∀ (w : World) (a : Option Addr) (n c n' c' : Nat), (binOp .eql 33 (.slice a n c) (.slice none n' c')).run Try.prog w = .ok (.bool a.isNone) w := fun w a n c n' c' => Lib.run_eql_slice_nil w _ _ a n c n' c' Try.underlying33
    go_enter Try.func21, Try.ntmps21
    go_wp2_with (((with_reducible refine gate_builtin (b := .append) (xs := #[.tmp 5, .tmp 6]) rfl ?_); at_builtin; refine Kd.R_append_rows (Kd.int .i64) (w0 := w) w.heap.size rfl (.tmp 5) (.tmp 6) 33 3 (.int .i64 0) 8 rfl Try.underlying33 info3 rfl (by decide) (by omega) (.slice (some ⟨w.heap.size, 0, none⟩) 0 0) ([] : List Int) l _ _ _ (fun _ => True) (fun _ => False) rfl rfl ?aO ?aR (fun _ _ h => h) (fun _ h => h.elim) ?aF ?aB ?aS ?aL ?_; (case aO => exact ⟨fun _ _ => trivial, OwnRow.lit w w.heap.size (Reps.none _ _) (Nat.le_refl _) (by decide)⟩); (case aR => exact Kd.C_alloc HR.out _); (case aF => exact (fun _ _ => trivial)); (case aB => exact below_alloc HB.out _); (case aS => exact below_size (below_alloc HB.out _)); (case aL => simp; omega); intro v1 w1 ho hb hg hat; have HO := Aside0.mk ho; have HB1 := Aside0.mk hb; clear ho hb hg hat))
    go_ret
    exact ⟨_, rfl, HO.out, HB1.out⟩
theorem indexNil (w : World) (fv : Value) : Calls Try.prog 31 #[.slice none 0 0, fv] w fun e w' => e = .returned (.int .i64 (-1)) ∧ w = w' := by
  go_enter Try.func31, Try.ntmps31
  go_wp2
  go_loopw [8] (fun v8 wr => v8 = .int .i64 0 ∧ Aside0 (w = wr)) (fun _ _ => 0)
  case atStart => exact ⟨rfl, ⟨rfl⟩⟩
  case round =>
    obtain ⟨rfl, HW⟩ := hrel
    go_wp2
    go_ret
    exact ⟨rfl, HW.out⟩
theorem deleteNil (w : World) (fv : Value) : Calls Try.prog 20 #[.slice none 0 0, fv] w fun e w' => e = .returned (.slice none 0 0) ∧ w = w' := by
  go_enter Try.func20, Try.ntmps20
  go_wp2_with (go_at_call 31; refine (indexNil _ _).mono ?_; rintro e w' ⟨rfl, rfl⟩)
  go_ret
  exact ⟨rfl, rfl⟩
theorem delete_all {w : World} {base : Nat} {ok : Nat → Prop} {v : Value} {l : List Int} (hR : Kd.R (Kd.int .i64) 3 w base ok v l) (A : Option Addr) (n c gB : Nat) (hc : w.cell? ⟨gB, 0, none⟩ = some (.slice A n c)) (hne : ∀ k, v.ownBlock = some k → k ≠ gB) :
    Calls Try.prog 20 #[v, .func (.func 22) #[] #[.pointer (some ⟨gB, 0, none⟩)]] w fun e w' => ∃ v', e = .returned v' ∧ Kd.R (Kd.int .i64) 3 w' base ok v' (l.filter fun x => !outB n x) ∧ w.grownBy w' v.ownBlock ∧ v'.ownBlock = v.ownBlock := by
  by_cases hs : v.ownBlock.isSome = true
  · exact delete_any hR A n c gB hc hne hs
  · have hv : v = .slice none 0 0 ∧ l = [] := by
      obtain ⟨_, inner, hown, _⟩ := hR
      rcases hown.2 with ⟨e1, e2⟩ | ⟨g, cap, cur, rfl, _⟩
      · exact ⟨e1, List.eq_nil_of_length_eq_zero e2⟩
      · exact absurd rfl hs
    obtain ⟨rfl, rfl⟩ := hv
    refine (deleteNil w _).mono ?_
    rintro e w' ⟨rfl, rfl⟩
    exact ⟨_, rfl, Kd.R_nil _ _ _ _ _, ⟨rfl, rfl, rfl, Nat.le_refl _, fun _ _ _ => rfl⟩, rfl⟩
def insideI (ss : List (List Int)) : List (List Int) := ss.map fun l => l.filter fun x => !outB ss.length x
theorem take_map_succ {α β : Type} (f : α → β) (l : List α) (j : Nat) (hj : j < l.length) (d : α) : (l.take (j + 1)).map f = (l.take j).map f ++ [f (l.getD j d)] := by
  rw [List.take_add_one, List.map_append, List.getD_eq_getElem?_getD, List.getElem?_eq_getElem hj]
  rfl
set_option maxHeartbeats 2000000 in
set_option maxRecDepth 100000 in
theorem inside_any (A : Option Addr) (c : Nat) (ss : List (List Int)) (w : World) (hr : Kd.C (Kd.slice 3 (Kd.int .i64)) w A ss.length ss) (hc : ss.length ≤ c) (hn : ss.length ≤ 64) (hl : ∀ j, j < ss.length → (ss.getD j []).length ≤ 1000000) :
    Calls Try.prog 13 #[.slice A ss.length c] w fun e w' => ∃ v, e = .returned v ∧ Kd.Q (Kd.slice 3 (Kd.int .i64)) 33 w' w.heap.size (fun k => w.heap.size ≤ k) v (insideI ss) ∧ Below w.heap.size w w' := by
  have HR := Aside0.mk hr
  have HC := Aside0.mk hc
  have HL := Aside0.mk hl
  obtain ⟨F, hF⟩ : ∃ F : List Int → List Int, F = fun l => l.filter fun x => !outB ss.length x := ⟨_, rfl⟩
  have HF := Aside0.mk hF
  have HRES : Aside0 (insideI ss = ss.map F) := ⟨by rw [hF]; rfl⟩
  clear hr hc hl hF
  go_enter Try.func13, Try.ntmps13
  go_wp2
  have HX := Aside0.mk (blk_new w (.cells #[.slice A ss.length c] 26))
  have HB := Aside0.mk (below_alloc (Below.refl w.heap.size w) (.cells #[.slice A ss.length c] 26))
  have hc0 := (blk_cell HX.out 0).trans (show (#[Value.slice A ss.length c] : Array Value)[0]? = some (.slice A ss.length c) from rfl)
  have HQ0 : Aside0 (Kd.Q (Kd.slice 3 (Kd.int .i64)) 33 (w.alloc (.cells #[.slice A ss.length c] 26)) w.heap.size (fun k => k ≠ w.heap.size) (.slice none 0 0) ((ss.take 0).map F)) := ⟨Kd.Q_nil _ _ _ _ _⟩
  generalize w.alloc _ = W1 at HX HB HQ0 hc0 ⊢
  go_loopw [3, 8] (fun v3 v8 wr => ∃ j : Nat, j ≤ ss.length ∧ v8 = .int .i64 (j : Int) ∧ Aside0 (wr.heap[w.heap.size]? = some (.cells #[.slice A ss.length c] 26 (0, 0))) ∧ Aside0 (Below w.heap.size w wr) ∧ Aside0 (Kd.Q (Kd.slice 3 (Kd.int .i64)) 33 wr w.heap.size (fun k => k ≠ w.heap.size) v3 ((ss.take j).map F))) (fun _ v8 _ => ss.length - (intOf v8).toNat)
  case atStart => exact ⟨0, Nat.zero_le _, rfl, HX, HB, HQ0⟩
  case round =>
    clear HX HB HQ0 hc0
    obtain ⟨j, hj, rfl, HX, HB, HQ⟩ := hrel
    obtain ⟨A3, c3, e3, _⟩ := Kd.Q_slice HQ.out
    rw [show ((ss.take j).map F).length = j by rw [List.length_map, List.length_take]; omega] at e3
    subst e3
    by_cases hlt : j < ss.length
    · obtain ⟨ad, A1, c1, e1, h1, hl1, hr1⟩ := at_L1 (Kd.C_below HR.out HB.out) (j : Int) (by omega) (by omega)
      cases e1
      have hrow : rd_L1 ss (j : Int) = ss.getD j [] := by unfold rd_L1; rw [Int.toNat_natCast]
      rw [hrow] at h1 hl1 hr1
      rw [Int.toNat_natCast] at h1
      have hsn := Aside0.mk (take_map_succ F ss j hlt [])
      have hll := HL.out j hlt
      have hFl : F (ss.getD j []) = (ss.getD j []).filter fun x => !outB ss.length x := by rw [HF.out]
      generalize ss.getD j [] = l at h1 hl1 hr1 hsn hll hFl
      have HR1 := Aside0.mk hr1
      have HL1 := Aside0.mk hl1
      have HLL := Aside0.mk hll
      have HFL := Aside0.mk hFl
      have HLJ := Aside0.mk (show ((ss.take j).map F).length ≤ 64 by rw [List.length_map, List.length_take]; omega)
      clear hr1 hl1 hll hFl hrow
      have HW := Aside0.mk (below_size HB.out)
      have HGB := Aside0.mk (blk_lt HX.out)
      go_wp2_with (first | (go_at_call 21; refine (cloneI_any A1 c1 l _ HR1.out HL1.out HLL.out).mono ?_; rintro e w1 ⟨v1, rfl, ho, hb⟩; have HO1 := Aside0.mk ho; have HB1 := Aside0.mk hb; clear ho hb h1; have HX1 := Aside0.mk (blk_below HX.out HB1.out)) | (go_at_call 20; refine (delete_all HO1.out (some ad) ss.length c w.heap.size ((blk_cell HX1.out 0).trans rfl) (fun k hk e => by have h1 := Kd.R_base HO1.out k hk; have h2 := HGB.out; omega)).mono ?_; rintro e w2 ⟨v2, rfl, ho, hg, hv⟩; obtain ⟨A2, c2, e2⟩ := Kd.R_slice ho; subst e2; have HO2 := Aside0.mk ho; have HB2 : Aside0 (Below wr.heap.size wr w2) := ⟨HB1.out.grown hg (below_size HB1.out) (fun k hk => Kd.R_base HO1.out k hk)⟩; clear ho hg hv) | ((with_reducible refine gate_builtin (b := .append) (xs := #[.tmp 12, .tmp 17]) rfl ?_); at_builtin; refine Kd.Q_append (Kd.slice 3 (Kd.int .i64)) (w0 := w) (W := w2) w.heap.size rfl (.tmp 12) (.tmp 17) 26 33 (.slice none 0 0) 24 rfl Try.underlying26 info33 rfl (by decide) (by omega) (.slice A3 j c3) ((ss.take j).map F) (l.filter fun x => !outB ss.length x) [.slice A2 (l.filter fun x => !outB ss.length x).length c2] (fun k => k ≠ w.heap.size) (fun k => wr.heap.size ≤ k) rfl rfl ?aP ?aK ?aF ?aO ?aB ?aS ?aL ?_; (case aP => exact ⟨_, rfl, Kd.R_lower (Kd.R_mono (Kd.R_bound HO2.out) (fun k hk => hk.2.1)) HW.out⟩); (case aK => exact (fun k hk => ⟨by have := HGB.out; omega, fun e => by have := Kd.Q_lt HQ.out k e.symm; omega⟩)); (case aF => exact (fun k hk => by have := HGB.out; have := below_size HB2.out; omega)); (case aO => exact Kd.Q_below HQ.out HB2.out); (case aB => exact below_step HB.out HB2.out); (case aS => exact (by have := HGB.out; have := below_size HB2.out; omega)); (case aL => exact (by have := HLJ.out; omega)); intro v4 w4 hq4 hb4 hg4 _; have HQ4 : Aside0 (Kd.Q (Kd.slice 3 (Kd.int .i64)) 33 w4 w.heap.size (fun k => k ≠ w.heap.size) v4 ((ss.take (j + 1)).map F)) := ⟨by rw [hsn.out, HFL.out]; exact hq4⟩; have HB4 := Aside0.mk hb4; have HX4 : Aside0 (w4.heap[w.heap.size]? = some (.cells #[.slice (some ad) ss.length c] 26 (0, 0))) := ⟨blk_grown (blk_below HX.out HB2.out) hg4 (fun e => (HQ.out.1 _ e.symm) rfl)⟩; clear hq4 hb4 hg4))
      go_roundw
      case rel => exact ⟨j + 1, by omega, by go_num, HX4, HB4, HQ4⟩
      case measure => simp [intOf]; omega
    · obtain rfl : j = ss.length := by omega
      go_wp2
      go_ret
      refine ⟨_, rfl, ?_, HB.out⟩
      have := HQ.out
      rw [List.take_length, ← HRES.out] at this
      exact Kd.Q_mono (Kd.Q_bound this) (fun k hk => hk.2.1)
/-! What Solve computes. -/
def edgO (k : Nat) (back : Bool) (ss : List (List Int)) (i : Int) : Option Bool := if back = true then slices_Contains_int_int.f k (rd_L1 ss i) (ss.length : Int) else some (i == 0)
def lookJ (m : Bool) (st : Int) (e : Bool) (fr tt gs ks : List Int) (i : Int) (ins outs : List Int) (s : List Bool × List Int) : List Int × List Int × (List Bool × List Int) :=
  if outI gs ks i (foldI m outs (if e = true then mtI m (alI m) st else alI m) fr) = rd outs i then (ins.set i.toNat (foldI m outs (if e = true then mtI m (alI m) st else alI m) fr), outs, s)
  else (ins.set i.toNat (foldI m outs (if e = true then mtI m (alI m) st else alI m) fr), outs.set i.toNat (outI gs ks i (foldI m outs (if e = true then mtI m (alI m) st else alI m) fr)), pushesI tt s)
def inR (n : Nat) (l : List Int) : Bool := l.all fun x => decide (0 ≤ x) && decide (x < (n : Int))
theorem inR_get {n : Nat} {l : List Int} (h : inR n l = true) (j : Nat) (hj : j < l.length) : 0 ≤ l.getD j 0 ∧ l.getD j 0 < (n : Int) := by
  have h1 := List.all_eq_true.1 h (l.getD j 0) (by rw [List.getD_eq_getElem?_getD, List.getElem?_eq_getElem hj]; exact List.getElem_mem hj)
  simpa using h1
def okI (n : Nat) (fr tt : List (List Int)) (i : Int) (q : List Int) : Bool := decide (0 ≤ i) && decide (i < (n : Int)) && inR n (rd_L1 fr i) && inR n (rd_L1 tt i) && decide (q.length + (rd_L1 tt i).length ≤ 1000000)
def solveI (k : Nat) (ss fr tt : List (List Int)) (gs ks : List Int) (st : Int) (m back : Bool) : Nat → List Int → List Int → List Bool → List Int → Option (List Int × List Int)
  | 0, _, _, _, _ => none
  | kq + 1, ins, outs, ws, q => match q with
    | [] => some (ins, outs)
    | i :: q => (edgO k back ss i).bind fun e => if okI ss.length fr tt i q = true then solveI k ss fr tt gs ks st m back kq (lookJ m st e (rd_L1 fr i) (rd_L1 tt i) gs ks i ins outs (ws.set i.toNat false, q)).1 (lookJ m st e (rd_L1 fr i) (rd_L1 tt i) gs ks i ins outs (ws.set i.toNat false, q)).2.1 (lookJ m st e (rd_L1 fr i) (rd_L1 tt i) gs ks i ins outs (ws.set i.toNat false, q)).2.2.1 (lookJ m st e (rd_L1 fr i) (rd_L1 tt i) gs ks i ins outs (ws.set i.toNat false, q)).2.2.2 else none
def fillL {α : Type} (a z : α) (n j : Nat) : List α := List.replicate j a ++ List.replicate (n - j) z
theorem fillL_zero {α : Type} (a z : α) (n : Nat) : fillL a z n 0 = List.replicate n z := by simp [fillL]
theorem fillL_full {α : Type} (a z : α) (n : Nat) : fillL a z n n = List.replicate n a := by simp [fillL]
theorem fillL_set {α : Type} (a z : α) (n j : Nat) (hj : j < n) : (fillL a z n j).set j a = fillL a z n (j + 1) := by
  unfold fillL
  apply List.ext_getElem?
  intro k
  simp only [List.getElem?_set, List.getElem?_append, List.length_append, List.length_replicate, List.getElem?_replicate]
  repeat' split
  all_goals first | rfl | omega
theorem fillL_get (n j : Nat) (hj : j < n) : (fillL true false n j).getD j false = false := by
  unfold fillL
  rw [List.getD_eq_getElem?_getD, List.getElem?_append_right (by simp), List.length_replicate, List.getElem?_replicate]
  split <;> rfl
def upTo (j : Nat) : List Int := (List.range j).map Int.ofNat
theorem pushI_fill (n j : Nat) (hj : j < n) : pushI (j : Int) (fillL true false n j, upTo j) = (fillL true false n (j + 1), upTo (j + 1)) := by
  unfold pushI
  simp only [Int.toNat_natCast]
  rw [if_neg (by rw [fillL_get n j hj]; simp), fillL_set true false n j hj]
  unfold upTo
  rw [List.range_succ, List.map_append]
  rfl
theorem Fut.of_Q {D : SvD} {w : World} {e base : Nat} {v : Value} {xs : List (List Int)} (h : Kd.Q (Kd.slice 3 (Kd.int .i64)) e w base (fun k => D.lo ≤ k ∧ k < D.hi) v xs) : FutL D w v xs := by
  obtain ⟨A, c, e1, l, r⟩ := Kd.Q_reads h
  refine ⟨A, c, e1, l, fun i h0 h1 => ?_⟩
  obtain ⟨ad, A1, c1, e3, h2, l1, h3⟩ := at_L1 r i h0 h1
  subst e3
  have hg := h.1 ad.block (by rw [e1]; rfl)
  have hb : (ad.add i.toNat).block = ad.block := by unfold Addr.add; split <;> rfl
  refine ⟨ad, A1, c1, rfl, l1, fun w' hw => ?_⟩
  have hcell : w'.cell? (ad.add i.toNat) = w.cell? (ad.add i.toNat) := cell_heap (by rw [hb]; exact hw.mid _ hg.1 hg.2)
  obtain ⟨A', c', e4, _, r'⟩ := Kd.Q_reads (Kd.Q_move (w1 := w') h (fun k hk => hw.mid k hk.1 hk.2))
  rw [e1] at e4
  cases e4
  obtain ⟨ad', A1', c1', e5, h2', l1', h3'⟩ := at_L1 r' i h0 h1
  cases e5
  rw [hcell, h2] at h2'
  cases h2'
  exact ⟨hcell.trans h2, h3'⟩
theorem SvF.setG {D : SvD} {w w' : World} (h : SvF D w w') (hB : D.B ≤ D.g) (hlo : D.g < D.lo) (j : Nat) (v : Value) : SvF D w (w'.setCell ⟨D.g, j, none⟩ v) :=
  ⟨h.below.setCell hB _, fun k h1 h2 => (Below.heap_setCell w' _ _ k (by show k ≠ D.g; omega)).trans (h.mid k h1 h2)⟩
theorem SvF.later {D : SvD} {w w' w'' : World} (h : SvF D w w') (hb : Below w'.heap.size w' w'') (hB : D.B ≤ w'.heap.size) (hh : D.hi ≤ w'.heap.size) : SvF D w w'' :=
  h.trans' ⟨hb.mono hB, fun k _ hk => hb.block k (by omega)⟩
theorem blk_lt_cell {w : World} {p : Addr} {v : Value} (h : w.cell? p = some v) : p.block < w.heap.size := World.block_lt_of_cell? w p h
/-- The three rows made. -/
structure M3 (w : World) (B n : Nat) (vI vO vW : Value) : Prop where
  ri : Kd.R (Kd.int .u64) 24 w B (fun _ => True) vI (List.replicate n 0)
  ro : Kd.R (Kd.int .u64) 24 w B (fun _ => True) vO (List.replicate n 0)
  rw_ : Kd.R Kd.bool 4 w B (fun _ => True) vW (List.replicate n false)
  nIO : ∀ k, vI.ownBlock = some k → vO.ownBlock ≠ some k
  nIW : ∀ k, vI.ownBlock = some k → vW.ownBlock ≠ some k
  nOW : ∀ k, vO.ownBlock = some k → vW.ownBlock ≠ some k
structure Mk3 (w0 w : World) (n : Nat) (vI vO vW : Value) : Prop extends M3 w w0.heap.size n vI vO vW where
  below : Below w0.heap.size w0 w
theorem Mk3.of {w0 w : World} {n : Nat} {vI vO vW : Value} (h : M3 w w0.heap.size n vI vO vW) (hb : Below w0.heap.size w0 w) : Mk3 w0 w n vI vO vW := { h with below := hb }
theorem ne_new {u v : Value} {m : Nat} (h1 : ∀ k, u.ownBlock = some k → k < m) (h2 : ∃ b, v.ownBlock = some b ∧ m ≤ b) : (∀ k, u.ownBlock = some k → v.ownBlock ≠ some k) ∧ (∀ k, v.ownBlock = some k → u.ownBlock ≠ some k) := by
  obtain ⟨b, hb, hm⟩ := h2
  refine ⟨fun k hk e => ?_, fun k hk e => ?_⟩
  · have := h1 k hk; rw [hb] at e; cases e; omega
  · have := h1 k e; rw [hb] at hk; cases hk; omega
section
variable {α β γ : Type} {a : Kd α} {b : Kd β} {c : Kd γ} {wa wb wc : World} {B ea eb ec : Nat} {va vb vc : Value} {xs : List α} {ys : List β} {zs : List γ}
theorem m3 (ha : a.R ea wa B (fun _ => True) va xs) (hgb : ∃ k, vb.ownBlock = some k ∧ wa.heap.size ≤ k) (hb : b.R eb wb B (fun _ => True) vb ys) (hgc : ∃ k, vc.ownBlock = some k ∧ wb.heap.size ≤ k) (hwb : wa.grownBy wb none) (hc : c.R ec wc B (fun _ => True) vc zs) (hwc : wb.grownBy wc none) :
    a.R ea wc B (fun _ => True) va xs ∧ b.R eb wc B (fun _ => True) vb ys ∧ c.R ec wc B (fun _ => True) vc zs ∧ ((∀ k, va.ownBlock = some k → vb.ownBlock ≠ some k) ∧ (∀ k, vb.ownBlock = some k → va.ownBlock ≠ some k)) ∧ ((∀ k, va.ownBlock = some k → vc.ownBlock ≠ some k) ∧ (∀ k, vc.ownBlock = some k → va.ownBlock ≠ some k)) ∧ ((∀ k, vb.ownBlock = some k → vc.ownBlock ≠ some k) ∧ (∀ k, vc.ownBlock = some k → vb.ownBlock ≠ some k)) := by
  have h1 := Kd.R_grown ha hwb (fun _ _ => by simp)
  exact ⟨Kd.R_grown h1 hwc (fun _ _ => by simp), Kd.R_grown hb hwc (fun _ _ => by simp), hc, ne_new (Kd.R_lt ha) hgb, ne_new (fun k hk => Nat.lt_of_lt_of_le (Kd.R_lt ha k hk) hwb.size) hgc, ne_new (Kd.R_lt hb) hgc⟩
end
section
variable {wa wb wc : World} {B n : Nat} {vI vO vW : Value}
theorem mk3IOW (h1 : Kd.R (Kd.int .u64) 24 wa B (fun _ => True) vI (List.replicate n 0)) (g2 : ∃ k, vO.ownBlock = some k ∧ wa.heap.size ≤ k) (h2 : Kd.R (Kd.int .u64) 24 wb B (fun _ => True) vO (List.replicate n 0)) (g3 : ∃ k, vW.ownBlock = some k ∧ wb.heap.size ≤ k) (b2 : wa.grownBy wb none) (h3 : Kd.R Kd.bool 4 wc B (fun _ => True) vW (List.replicate n false)) (b3 : wb.grownBy wc none) : M3 wc B n vI vO vW := by
  obtain ⟨r1, r2, r3, n12, n13, n23⟩ := m3 h1 g2 h2 g3 b2 h3 b3
  exact ⟨r1, r2, r3, n12.1, n13.1, n23.1⟩
theorem mk3IWO (h1 : Kd.R (Kd.int .u64) 24 wa B (fun _ => True) vI (List.replicate n 0)) (g2 : ∃ k, vW.ownBlock = some k ∧ wa.heap.size ≤ k) (h2 : Kd.R Kd.bool 4 wb B (fun _ => True) vW (List.replicate n false)) (g3 : ∃ k, vO.ownBlock = some k ∧ wb.heap.size ≤ k) (b2 : wa.grownBy wb none) (h3 : Kd.R (Kd.int .u64) 24 wc B (fun _ => True) vO (List.replicate n 0)) (b3 : wb.grownBy wc none) : M3 wc B n vI vO vW := by
  obtain ⟨r1, r2, r3, n12, n13, n23⟩ := m3 h1 g2 h2 g3 b2 h3 b3
  exact ⟨r1, r3, r2, n13.1, n12.1, n23.2⟩
theorem mk3OIW (h1 : Kd.R (Kd.int .u64) 24 wa B (fun _ => True) vO (List.replicate n 0)) (g2 : ∃ k, vI.ownBlock = some k ∧ wa.heap.size ≤ k) (h2 : Kd.R (Kd.int .u64) 24 wb B (fun _ => True) vI (List.replicate n 0)) (g3 : ∃ k, vW.ownBlock = some k ∧ wb.heap.size ≤ k) (b2 : wa.grownBy wb none) (h3 : Kd.R Kd.bool 4 wc B (fun _ => True) vW (List.replicate n false)) (b3 : wb.grownBy wc none) : M3 wc B n vI vO vW := by
  obtain ⟨r1, r2, r3, n12, n13, n23⟩ := m3 h1 g2 h2 g3 b2 h3 b3
  exact ⟨r2, r1, r3, n12.2, n23.1, n13.1⟩
theorem mk3OWI (h1 : Kd.R (Kd.int .u64) 24 wa B (fun _ => True) vO (List.replicate n 0)) (g2 : ∃ k, vW.ownBlock = some k ∧ wa.heap.size ≤ k) (h2 : Kd.R Kd.bool 4 wb B (fun _ => True) vW (List.replicate n false)) (g3 : ∃ k, vI.ownBlock = some k ∧ wb.heap.size ≤ k) (b2 : wa.grownBy wb none) (h3 : Kd.R (Kd.int .u64) 24 wc B (fun _ => True) vI (List.replicate n 0)) (b3 : wb.grownBy wc none) : M3 wc B n vI vO vW := by
  obtain ⟨r1, r2, r3, n12, n13, n23⟩ := m3 h1 g2 h2 g3 b2 h3 b3
  exact ⟨r3, r1, r2, n13.2, n23.2, n12.1⟩
theorem mk3WIO (h1 : Kd.R Kd.bool 4 wa B (fun _ => True) vW (List.replicate n false)) (g2 : ∃ k, vI.ownBlock = some k ∧ wa.heap.size ≤ k) (h2 : Kd.R (Kd.int .u64) 24 wb B (fun _ => True) vI (List.replicate n 0)) (g3 : ∃ k, vO.ownBlock = some k ∧ wb.heap.size ≤ k) (b2 : wa.grownBy wb none) (h3 : Kd.R (Kd.int .u64) 24 wc B (fun _ => True) vO (List.replicate n 0)) (b3 : wb.grownBy wc none) : M3 wc B n vI vO vW := by
  obtain ⟨r1, r2, r3, n12, n13, n23⟩ := m3 h1 g2 h2 g3 b2 h3 b3
  exact ⟨r2, r3, r1, n23.1, n12.2, n13.2⟩
theorem mk3WOI (h1 : Kd.R Kd.bool 4 wa B (fun _ => True) vW (List.replicate n false)) (g2 : ∃ k, vO.ownBlock = some k ∧ wa.heap.size ≤ k) (h2 : Kd.R (Kd.int .u64) 24 wb B (fun _ => True) vO (List.replicate n 0)) (g3 : ∃ k, vI.ownBlock = some k ∧ wb.heap.size ≤ k) (b2 : wa.grownBy wb none) (h3 : Kd.R (Kd.int .u64) 24 wc B (fun _ => True) vI (List.replicate n 0)) (b3 : wb.grownBy wc none) : M3 wc B n vI vO vW := by
  obtain ⟨r1, r2, r3, n12, n13, n23⟩ := m3 h1 g2 h2 g3 b2 h3 b3
  exact ⟨r3, r2, r1, n23.2, n13.2, n12.2⟩
end
theorem Sv.begin (D : SvD) {w5 wz : World} (hM : M3 w5 D.B D.n D.vI D.vO D.vW) (hb : Below w5.heap.size w5 wz) (hg : D.g = w5.heap.size) (hBg : D.B ≤ D.g) (hlo : D.g < D.lo) (hhi : D.lo ≤ D.hi) (hz : D.hi ≤ wz.heap.size) (hblk : wz.heap[D.g]? = some (.cells (svCells D (.slice none 0 0)) 43 (0, 0))) :
    Sv D wz (.slice none 0 0) (List.replicate D.n 0) (List.replicate D.n 0) (List.replicate D.n false) [] := by
  have hI := Kd.R_lt hM.ri
  have hO := Kd.R_lt hM.ro
  have hW := Kd.R_lt hM.rw_
  refine ⟨hblk, ?_, ?_, ?_, Kd.Q_nil _ _ _ _ _, List.length_replicate, List.length_replicate, List.length_replicate, fun k hk => ?_, fun k hk => ?_, fun k hk => ?_, hM.nIO, hM.nIW, hM.nOW, ⟨hBg, hlo, hhi, hz⟩⟩
  · exact Kd.R_below (ok := fun k => D.vI.ownBlock = some k) ⟨fun k hk => hk, hM.ri.2⟩ hb
  · exact Kd.R_below (ok := fun k => D.vO.ownBlock = some k) ⟨fun k hk => hk, hM.ro.2⟩ hb
  · exact Kd.R_below (ok := fun k => D.vW.ownBlock = some k) ⟨fun k hk => hk, hM.rw_.2⟩ hb
  · have := hI k hk; omega
  · have := hO k hk; omega
  · have := hW k hk; omega
theorem info4 : (Try.prog.info? 4).map (fun i => (i.zero, i.size, i.bytes)) = some (some (.bool false), 1, 1) := by kernel_rfl
theorem solT4 : rtab .any (opsOf Try.f10 4) = rtab .any (opsOf Try.f10 4) := rfl
theorem solT5 : rtab .any (opsOf Try.f10 5) = rtab .any (opsOf Try.f10 5) := rfl
theorem solT7 : rtab .any (opsOf Try.f10 7) = rtab .any (opsOf Try.f10 7) := rfl
theorem solT11 : rtab .any (opsOf Try.f10 11) = rtab .any (opsOf Try.f10 11) := rfl
def SolP (w : World) (r : List Int × List Int) (e : Ending) (w' : World) : Prop := ∃ v0_ v1_ : Value, e = .returned (.tuple #[v0_, v1_]) ∧ Kd.R (Kd.int .u64) 24 w' w.heap.size (fun k => some k ≠ v1_.ownBlock) v0_ r.1 ∧ Kd.R (Kd.int .u64) 24 w' w.heap.size (fun k => some k ≠ v0_.ownBlock) v1_ r.2 ∧ Below w.heap.size w w'
set_option maxHeartbeats 8000000 in
set_option maxRecDepth 100000 in
theorem solve_any (AS : Option Addr) (cS : Nat) (ss : List (List Int)) (AG : Option Addr) (cG : Nat) (gs : List Int) (AK : Option Addr) (cK : Nat) (ks : List Int) (st : Int) (must back : Bool) (w : World)
    (hrS : Kd.C (Kd.slice 3 (Kd.int .i64)) w AS ss.length ss) (hcS : ss.length ≤ cS) (hrG : Kd.C (Kd.int .u64) w AG gs.length gs) (hcG : gs.length ≤ cG) (hrK : Kd.C (Kd.int .u64) w AK ks.length ks) (hcK : ks.length ≤ cK) (hn : ss.length ≤ 64) (kk : Nat) (ps : List (List Int)) (hps : cfg_Preds.f kk ss = some ps) (hpl : ps.length = ss.length) (hl : ∀ j, j < ss.length → (ss.getD j []).length ≤ 1000000) (k0 : Nat) (res : List Int × List Int)
    (hsol : solveI k0 ss (if back = true then insideI ss else ps) (if back = true then ps else insideI ss) gs ks st must back kk (List.replicate ss.length (alI must)) (List.replicate ss.length (alI must)) (List.replicate ss.length true) (upTo ss.length) = some res) :
    Calls Try.prog 10 #[.agg #[.slice AS ss.length cS, .slice AG gs.length cG, .slice AK ks.length cK, .int .u64 st, .bool must, .bool back]] w (SolP w (if back = true then (res.2, res.1) else res)) := by
  obtain ⟨rr, hrr⟩ : ∃ rr, rr = (if back = true then (res.2, res.1) else res) := ⟨_, rfl⟩
  rw [← hrr]
  have HRR := Aside0.mk hrr
  clear hrr
  have HRS := Aside0.mk hrS
  have HRG := Aside0.mk hrG
  have HRK := Aside0.mk hrK
  have dn : decide ((64 : Int) < (ss.length : Int)) = false := decide_eq_false (by omega)
  have HCS := Aside0.mk hcS
  have HCG := Aside0.mk hcG
  have HCK := Aside0.mk hcK
  have HN := Aside0.mk hn
  have HL := Aside0.mk hl
  have HPS := Aside0.mk hps
  have HPL := Aside0.mk hpl
  have HSOL := Aside0.mk hsol
  clear hrS hrG hrK hcS hcG hcK hl hps hpl hsol
  go_enter Try.func10, Try.ntmps10
  go_wp2
  have HX0 := Aside0.mk (blk_new w (.cells #[.slice AS ss.length cS, .slice AG gs.length cG, .slice AK ks.length cK, .int .u64 st, .bool must, .bool back] 31))
  have HB0 := Aside0.mk (below_alloc (Below.refl w.heap.size w) (.cells #[.slice AS ss.length cS, .slice AG gs.length cG, .slice AK ks.length cK, .int .u64 st, .bool must, .bool back] 31))
  generalize w.alloc _ = w0 at HX0 HB0 ⊢
  have HC0 : Aside0 (w0.cell? ⟨w.heap.size, 0, none⟩ = some (.slice AS ss.length cS)) := ⟨(blk_cell HX0.out 0).trans rfl⟩
  have HC1 : Aside0 (w0.cell? ⟨w.heap.size, 1, none⟩ = some (.slice AG gs.length cG)) := ⟨(blk_cell HX0.out 1).trans rfl⟩
  have HC2 : Aside0 (w0.cell? ⟨w.heap.size, 2, none⟩ = some (.slice AK ks.length cK)) := ⟨(blk_cell HX0.out 2).trans rfl⟩
  have HC3 : Aside0 (w0.cell? ⟨w.heap.size, 3, none⟩ = some (.int .u64 st)) := ⟨(blk_cell HX0.out 3).trans rfl⟩
  have HC4 : Aside0 (w0.cell? ⟨w.heap.size, 4, none⟩ = some (.bool must)) := ⟨(blk_cell HX0.out 4).trans rfl⟩
  have HC5 : Aside0 (w0.cell? ⟨w.heap.size, 5, none⟩ = some (.bool back)) := ⟨(blk_cell HX0.out 5).trans rfl⟩
  refine start_ (n := 10) (S := fun w' => Below w0.heap.size w0 w') (ds := []) #[false, false, false, false, false, false, false, false, false, false] (by kernel_rfl) rfl rfl (below_drew (Below.refl _ _)) (fun hHeld => ?_)
  refine with_tab solT4 (fun HT_ => ?_)
  refine pure_ (i := 1) (N := some 14) (v := ?_) (a' := ?_) #[false, true, false, false, false, false, false, false, false, false] rfl rfl (any_of HT_.out (by kernel_rfl)) (fun _ _ _ h => h) (Or.inl ⟨by rfl, ?_⟩) ?_ ?_
  rotate_left
  · intro w'
    go_simp
    with_reducible rfl
  rotate_left
  · (try simp only [Act.put, sT_, sZ_, sS_, i64_w, i32_w, u8q_]); rfl
  refine pure_ (i := 3) (N := some 16) (v := ?_) (a' := ?_) #[false, true, false, true, false, false, false, false, false, false] rfl rfl (any_of HT_.out (by kernel_rfl)) (fun _ _ _ h => h) (Or.inl ⟨by rfl, ?_⟩) ?_ ?_
  rotate_left
  · intro w'
    go_simp
    with_reducible rfl
  rotate_left
  · (try simp only [Act.put, sT_, sZ_, sS_, i64_w, i32_w, u8q_]); rfl
  refine pure_ (i := 5) (N := some 18) (v := ?_) (a' := ?_) #[false, true, false, true, false, true, false, false, false, false] rfl rfl (any_of HT_.out (by kernel_rfl)) (fun _ _ _ h => h) (Or.inl ⟨by rfl, ?_⟩) ?_ ?_
  rotate_left
  · intro w'
    go_simp
    with_reducible rfl
  rotate_left
  · (try simp only [Act.put, sT_, sZ_, sS_, i64_w, i32_w, u8q_]); rfl
  refine take_ (i := 0) (N := some 13) (v := ?_) (a' := ?_) #[true, true, false, true, false, true, false, false, false, false] rfl rfl (take_of HT_.out (by kernel_rfl)) (fun _ _ _ h => h) (Or.inl ⟨by rfl, ?_⟩) hHeld ?_ ?_
  rotate_left
  · intro w' hS'
    have hy0 := pw_cell_below hS' HC0.out
    have hy1 := pw_cell_below hS' HC1.out
    have hy2 := pw_cell_below hS' HC2.out
    have hy3 := pw_cell_below hS' HC3.out
    have hy4 := pw_cell_below hS' HC4.out
    have hy5 := pw_cell_below hS' HC5.out
    go_simp
    with_reducible rfl
  rotate_left
  · (try simp only [Act.put, sT_, sZ_, sS_, i64_w, i32_w, u8q_]); rfl
  refine join_ (σ := Value × Value × Value) 3 #[true, true, true, true, true, true, true, false, false, false] (fun s => [(15, s.1), (17, s.2.1), (19, s.2.2)]) (fun s w' => Mk3 w0 w' ss.length s.1 s.2.1 s.2.2) ?_ ?_
  rotate_left
  · intro hCont
    refine three_ (i := 2) (j := 4) (k := 6) (Ni := some 15) (Nj := some 17) (Nk := some 19) #[true, true, true, true, false, true, false, false, false, false] #[true, true, false, true, true, true, false, false, false, false] #[true, true, false, true, false, true, true, false, false, false] rfl rfl rfl rfl rfl rfl (three_of HT_.out (by kernel_rfl)) (by decide) (by decide) (by decide) (fun K hK => ?_) (fun K hK => ?_) (fun K hK => ?_)
    · skip
      refine Kd.R_make_step (Kd.int .u64) (w0 := w0) w0.heap.size 24 (by rfl) (N := 15) rfl 23 (.tmp 14) (.tmp 14) rfl (ss.length : Int) rfl rfl Try.underlying23 (.int .u64 0) 8 info24 rfl (by decide) (by decide) (0) (ok := fun _ => True) (okp := fun _ => False) ?hz (fun _ h => h.elim) trivial (by omega) ?hl hHeld (below_size hHeld) ?_
      case hz => exact rfl
      case hl => rw [Int.toNat_natCast]; omega
      intro vI wx_I hI hHeld1 hwI hgI
      rw [Int.toNat_natCast] at hI
      refine hK.out _ _ hHeld1 (fun hHeld => ?_)
      clear hK K hHeld1
      refine norm_ (a' := ?_) ?_ ?_
      rotate_left
      · show Act.put _ (some 15) _ = _
        simp only [Act.put, sT_, sZ_, sS_, i64_w, i32_w, u8q_]
        rfl
      refine two_ (i := 4) (j := 6) (Ni := some 17) (Nj := some 19) #[true, true, true, true, true, true, false, false, false, false] #[true, true, true, true, false, true, true, false, false, false] rfl rfl rfl rfl (two_of HT_.out (by kernel_rfl)) (by decide) (by decide) (fun K hK => ?_) (fun K hK => ?_)
      · skip
        refine Kd.R_make_step (Kd.int .u64) (w0 := w0) w0.heap.size 24 (by rfl) (N := 17) rfl 23 (.tmp 16) (.tmp 16) rfl (ss.length : Int) rfl rfl Try.underlying23 (.int .u64 0) 8 info24 rfl (by decide) (by decide) (0) (ok := fun _ => True) (okp := fun _ => False) ?hz (fun _ h => h.elim) trivial (by omega) ?hl hHeld (below_size hHeld) ?_
        case hz => exact rfl
        case hl => rw [Int.toNat_natCast]; omega
        intro vO wx_O hO hHeld1 hwO hgO
        rw [Int.toNat_natCast] at hO
        refine hK.out _ _ hHeld1 (fun hHeld => ?_)
        clear hK K hHeld1
        refine norm_ (a' := ?_) ?_ ?_
        rotate_left
        · show Act.put _ (some 17) _ = _
          simp only [Act.put, sT_, sZ_, sS_, i64_w, i32_w, u8q_]
          rfl
        refine one_ (i := 6) (N := some 19) #[true, true, true, true, true, true, true, false, false, false] rfl rfl (one_of HT_.out (by kernel_rfl)) (by decide) (fun K hK => ?_)
        refine Kd.R_make_step Kd.bool (w0 := w0) w0.heap.size 4 (by rfl) (N := 19) rfl 41 (.tmp 18) (.tmp 18) rfl (ss.length : Int) rfl rfl Try.underlying41 (.bool false) 1 info4 rfl (by decide) (by decide) (false) (ok := fun _ => True) (okp := fun _ => False) ?hz (fun _ h => h.elim) trivial (by omega) ?hl hHeld (below_size hHeld) ?_
        case hz => exact rfl
        case hl => rw [Int.toNat_natCast]; omega
        intro vW wx_W hW hHeld1 hwW hgW
        rw [Int.toNat_natCast] at hW
        refine hK.out _ _ hHeld1 (fun hHeld => ?_)
        clear hK K hHeld1
        refine norm_ (a' := ?_) ?_ ?_
        rotate_left
        · show Act.put _ (some 19) _ = _
          simp only [Act.put, sT_, sZ_, sS_, i64_w, i32_w, u8q_]
          rfl
        exact norm_ (by first | (simp only [putAll, Act.put, sT_, sZ_, sS_]; done) | (simp only [putAll, Act.put, sT_, sZ_, sS_]; rfl)) (hCont (vI, vO, vW) _ (Mk3.of (mk3IOW hI hgO hO hgW hwO hW hwW) hHeld))
      · skip
        refine Kd.R_make_step Kd.bool (w0 := w0) w0.heap.size 4 (by rfl) (N := 19) rfl 41 (.tmp 18) (.tmp 18) rfl (ss.length : Int) rfl rfl Try.underlying41 (.bool false) 1 info4 rfl (by decide) (by decide) (false) (ok := fun _ => True) (okp := fun _ => False) ?hz (fun _ h => h.elim) trivial (by omega) ?hl hHeld (below_size hHeld) ?_
        case hz => exact rfl
        case hl => rw [Int.toNat_natCast]; omega
        intro vW wx_W hW hHeld1 hwW hgW
        rw [Int.toNat_natCast] at hW
        refine hK.out _ _ hHeld1 (fun hHeld => ?_)
        clear hK K hHeld1
        refine norm_ (a' := ?_) ?_ ?_
        rotate_left
        · show Act.put _ (some 19) _ = _
          simp only [Act.put, sT_, sZ_, sS_, i64_w, i32_w, u8q_]
          rfl
        refine one_ (i := 4) (N := some 17) #[true, true, true, true, true, true, true, false, false, false] rfl rfl (one_of HT_.out (by kernel_rfl)) (by decide) (fun K hK => ?_)
        refine Kd.R_make_step (Kd.int .u64) (w0 := w0) w0.heap.size 24 (by rfl) (N := 17) rfl 23 (.tmp 16) (.tmp 16) rfl (ss.length : Int) rfl rfl Try.underlying23 (.int .u64 0) 8 info24 rfl (by decide) (by decide) (0) (ok := fun _ => True) (okp := fun _ => False) ?hz (fun _ h => h.elim) trivial (by omega) ?hl hHeld (below_size hHeld) ?_
        case hz => exact rfl
        case hl => rw [Int.toNat_natCast]; omega
        intro vO wx_O hO hHeld1 hwO hgO
        rw [Int.toNat_natCast] at hO
        refine hK.out _ _ hHeld1 (fun hHeld => ?_)
        clear hK K hHeld1
        refine norm_ (a' := ?_) ?_ ?_
        rotate_left
        · show Act.put _ (some 17) _ = _
          simp only [Act.put, sT_, sZ_, sS_, i64_w, i32_w, u8q_]
          rfl
        exact norm_ (by first | (simp only [putAll, Act.put, sT_, sZ_, sS_]; done) | (simp only [putAll, Act.put, sT_, sZ_, sS_]; rfl)) (hCont (vI, vO, vW) _ (Mk3.of (mk3IWO hI hgW hW hgO hwW hO hwO) hHeld))
    · skip
      refine Kd.R_make_step (Kd.int .u64) (w0 := w0) w0.heap.size 24 (by rfl) (N := 17) rfl 23 (.tmp 16) (.tmp 16) rfl (ss.length : Int) rfl rfl Try.underlying23 (.int .u64 0) 8 info24 rfl (by decide) (by decide) (0) (ok := fun _ => True) (okp := fun _ => False) ?hz (fun _ h => h.elim) trivial (by omega) ?hl hHeld (below_size hHeld) ?_
      case hz => exact rfl
      case hl => rw [Int.toNat_natCast]; omega
      intro vO wx_O hO hHeld1 hwO hgO
      rw [Int.toNat_natCast] at hO
      refine hK.out _ _ hHeld1 (fun hHeld => ?_)
      clear hK K hHeld1
      refine norm_ (a' := ?_) ?_ ?_
      rotate_left
      · show Act.put _ (some 17) _ = _
        simp only [Act.put, sT_, sZ_, sS_, i64_w, i32_w, u8q_]
        rfl
      refine two_ (i := 2) (j := 6) (Ni := some 15) (Nj := some 19) #[true, true, true, true, true, true, false, false, false, false] #[true, true, false, true, true, true, true, false, false, false] rfl rfl rfl rfl (two_of HT_.out (by kernel_rfl)) (by decide) (by decide) (fun K hK => ?_) (fun K hK => ?_)
      · skip
        refine Kd.R_make_step (Kd.int .u64) (w0 := w0) w0.heap.size 24 (by rfl) (N := 15) rfl 23 (.tmp 14) (.tmp 14) rfl (ss.length : Int) rfl rfl Try.underlying23 (.int .u64 0) 8 info24 rfl (by decide) (by decide) (0) (ok := fun _ => True) (okp := fun _ => False) ?hz (fun _ h => h.elim) trivial (by omega) ?hl hHeld (below_size hHeld) ?_
        case hz => exact rfl
        case hl => rw [Int.toNat_natCast]; omega
        intro vI wx_I hI hHeld1 hwI hgI
        rw [Int.toNat_natCast] at hI
        refine hK.out _ _ hHeld1 (fun hHeld => ?_)
        clear hK K hHeld1
        refine norm_ (a' := ?_) ?_ ?_
        rotate_left
        · show Act.put _ (some 15) _ = _
          simp only [Act.put, sT_, sZ_, sS_, i64_w, i32_w, u8q_]
          rfl
        refine one_ (i := 6) (N := some 19) #[true, true, true, true, true, true, true, false, false, false] rfl rfl (one_of HT_.out (by kernel_rfl)) (by decide) (fun K hK => ?_)
        refine Kd.R_make_step Kd.bool (w0 := w0) w0.heap.size 4 (by rfl) (N := 19) rfl 41 (.tmp 18) (.tmp 18) rfl (ss.length : Int) rfl rfl Try.underlying41 (.bool false) 1 info4 rfl (by decide) (by decide) (false) (ok := fun _ => True) (okp := fun _ => False) ?hz (fun _ h => h.elim) trivial (by omega) ?hl hHeld (below_size hHeld) ?_
        case hz => exact rfl
        case hl => rw [Int.toNat_natCast]; omega
        intro vW wx_W hW hHeld1 hwW hgW
        rw [Int.toNat_natCast] at hW
        refine hK.out _ _ hHeld1 (fun hHeld => ?_)
        clear hK K hHeld1
        refine norm_ (a' := ?_) ?_ ?_
        rotate_left
        · show Act.put _ (some 19) _ = _
          simp only [Act.put, sT_, sZ_, sS_, i64_w, i32_w, u8q_]
          rfl
        exact norm_ (by first | (simp only [putAll, Act.put, sT_, sZ_, sS_]; done) | (simp only [putAll, Act.put, sT_, sZ_, sS_]; rfl)) (hCont (vI, vO, vW) _ (Mk3.of (mk3OIW hO hgI hI hgW hwI hW hwW) hHeld))
      · skip
        refine Kd.R_make_step Kd.bool (w0 := w0) w0.heap.size 4 (by rfl) (N := 19) rfl 41 (.tmp 18) (.tmp 18) rfl (ss.length : Int) rfl rfl Try.underlying41 (.bool false) 1 info4 rfl (by decide) (by decide) (false) (ok := fun _ => True) (okp := fun _ => False) ?hz (fun _ h => h.elim) trivial (by omega) ?hl hHeld (below_size hHeld) ?_
        case hz => exact rfl
        case hl => rw [Int.toNat_natCast]; omega
        intro vW wx_W hW hHeld1 hwW hgW
        rw [Int.toNat_natCast] at hW
        refine hK.out _ _ hHeld1 (fun hHeld => ?_)
        clear hK K hHeld1
        refine norm_ (a' := ?_) ?_ ?_
        rotate_left
        · show Act.put _ (some 19) _ = _
          simp only [Act.put, sT_, sZ_, sS_, i64_w, i32_w, u8q_]
          rfl
        refine one_ (i := 2) (N := some 15) #[true, true, true, true, true, true, true, false, false, false] rfl rfl (one_of HT_.out (by kernel_rfl)) (by decide) (fun K hK => ?_)
        refine Kd.R_make_step (Kd.int .u64) (w0 := w0) w0.heap.size 24 (by rfl) (N := 15) rfl 23 (.tmp 14) (.tmp 14) rfl (ss.length : Int) rfl rfl Try.underlying23 (.int .u64 0) 8 info24 rfl (by decide) (by decide) (0) (ok := fun _ => True) (okp := fun _ => False) ?hz (fun _ h => h.elim) trivial (by omega) ?hl hHeld (below_size hHeld) ?_
        case hz => exact rfl
        case hl => rw [Int.toNat_natCast]; omega
        intro vI wx_I hI hHeld1 hwI hgI
        rw [Int.toNat_natCast] at hI
        refine hK.out _ _ hHeld1 (fun hHeld => ?_)
        clear hK K hHeld1
        refine norm_ (a' := ?_) ?_ ?_
        rotate_left
        · show Act.put _ (some 15) _ = _
          simp only [Act.put, sT_, sZ_, sS_, i64_w, i32_w, u8q_]
          rfl
        exact norm_ (by first | (simp only [putAll, Act.put, sT_, sZ_, sS_]; done) | (simp only [putAll, Act.put, sT_, sZ_, sS_]; rfl)) (hCont (vI, vO, vW) _ (Mk3.of (mk3OWI hO hgW hW hgI hwW hI hwI) hHeld))
    · skip
      refine Kd.R_make_step Kd.bool (w0 := w0) w0.heap.size 4 (by rfl) (N := 19) rfl 41 (.tmp 18) (.tmp 18) rfl (ss.length : Int) rfl rfl Try.underlying41 (.bool false) 1 info4 rfl (by decide) (by decide) (false) (ok := fun _ => True) (okp := fun _ => False) ?hz (fun _ h => h.elim) trivial (by omega) ?hl hHeld (below_size hHeld) ?_
      case hz => exact rfl
      case hl => rw [Int.toNat_natCast]; omega
      intro vW wx_W hW hHeld1 hwW hgW
      rw [Int.toNat_natCast] at hW
      refine hK.out _ _ hHeld1 (fun hHeld => ?_)
      clear hK K hHeld1
      refine norm_ (a' := ?_) ?_ ?_
      rotate_left
      · show Act.put _ (some 19) _ = _
        simp only [Act.put, sT_, sZ_, sS_, i64_w, i32_w, u8q_]
        rfl
      refine two_ (i := 2) (j := 4) (Ni := some 15) (Nj := some 17) #[true, true, true, true, false, true, true, false, false, false] #[true, true, false, true, true, true, true, false, false, false] rfl rfl rfl rfl (two_of HT_.out (by kernel_rfl)) (by decide) (by decide) (fun K hK => ?_) (fun K hK => ?_)
      · skip
        refine Kd.R_make_step (Kd.int .u64) (w0 := w0) w0.heap.size 24 (by rfl) (N := 15) rfl 23 (.tmp 14) (.tmp 14) rfl (ss.length : Int) rfl rfl Try.underlying23 (.int .u64 0) 8 info24 rfl (by decide) (by decide) (0) (ok := fun _ => True) (okp := fun _ => False) ?hz (fun _ h => h.elim) trivial (by omega) ?hl hHeld (below_size hHeld) ?_
        case hz => exact rfl
        case hl => rw [Int.toNat_natCast]; omega
        intro vI wx_I hI hHeld1 hwI hgI
        rw [Int.toNat_natCast] at hI
        refine hK.out _ _ hHeld1 (fun hHeld => ?_)
        clear hK K hHeld1
        refine norm_ (a' := ?_) ?_ ?_
        rotate_left
        · show Act.put _ (some 15) _ = _
          simp only [Act.put, sT_, sZ_, sS_, i64_w, i32_w, u8q_]
          rfl
        refine one_ (i := 4) (N := some 17) #[true, true, true, true, true, true, true, false, false, false] rfl rfl (one_of HT_.out (by kernel_rfl)) (by decide) (fun K hK => ?_)
        refine Kd.R_make_step (Kd.int .u64) (w0 := w0) w0.heap.size 24 (by rfl) (N := 17) rfl 23 (.tmp 16) (.tmp 16) rfl (ss.length : Int) rfl rfl Try.underlying23 (.int .u64 0) 8 info24 rfl (by decide) (by decide) (0) (ok := fun _ => True) (okp := fun _ => False) ?hz (fun _ h => h.elim) trivial (by omega) ?hl hHeld (below_size hHeld) ?_
        case hz => exact rfl
        case hl => rw [Int.toNat_natCast]; omega
        intro vO wx_O hO hHeld1 hwO hgO
        rw [Int.toNat_natCast] at hO
        refine hK.out _ _ hHeld1 (fun hHeld => ?_)
        clear hK K hHeld1
        refine norm_ (a' := ?_) ?_ ?_
        rotate_left
        · show Act.put _ (some 17) _ = _
          simp only [Act.put, sT_, sZ_, sS_, i64_w, i32_w, u8q_]
          rfl
        exact norm_ (by first | (simp only [putAll, Act.put, sT_, sZ_, sS_]; done) | (simp only [putAll, Act.put, sT_, sZ_, sS_]; rfl)) (hCont (vI, vO, vW) _ (Mk3.of (mk3WIO hW hgI hI hgO hwI hO hwO) hHeld))
      · skip
        refine Kd.R_make_step (Kd.int .u64) (w0 := w0) w0.heap.size 24 (by rfl) (N := 17) rfl 23 (.tmp 16) (.tmp 16) rfl (ss.length : Int) rfl rfl Try.underlying23 (.int .u64 0) 8 info24 rfl (by decide) (by decide) (0) (ok := fun _ => True) (okp := fun _ => False) ?hz (fun _ h => h.elim) trivial (by omega) ?hl hHeld (below_size hHeld) ?_
        case hz => exact rfl
        case hl => rw [Int.toNat_natCast]; omega
        intro vO wx_O hO hHeld1 hwO hgO
        rw [Int.toNat_natCast] at hO
        refine hK.out _ _ hHeld1 (fun hHeld => ?_)
        clear hK K hHeld1
        refine norm_ (a' := ?_) ?_ ?_
        rotate_left
        · show Act.put _ (some 17) _ = _
          simp only [Act.put, sT_, sZ_, sS_, i64_w, i32_w, u8q_]
          rfl
        refine one_ (i := 2) (N := some 15) #[true, true, true, true, true, true, true, false, false, false] rfl rfl (one_of HT_.out (by kernel_rfl)) (by decide) (fun K hK => ?_)
        refine Kd.R_make_step (Kd.int .u64) (w0 := w0) w0.heap.size 24 (by rfl) (N := 15) rfl 23 (.tmp 14) (.tmp 14) rfl (ss.length : Int) rfl rfl Try.underlying23 (.int .u64 0) 8 info24 rfl (by decide) (by decide) (0) (ok := fun _ => True) (okp := fun _ => False) ?hz (fun _ h => h.elim) trivial (by omega) ?hl hHeld (below_size hHeld) ?_
        case hz => exact rfl
        case hl => rw [Int.toNat_natCast]; omega
        intro vI wx_I hI hHeld1 hwI hgI
        rw [Int.toNat_natCast] at hI
        refine hK.out _ _ hHeld1 (fun hHeld => ?_)
        clear hK K hHeld1
        refine norm_ (a' := ?_) ?_ ?_
        rotate_left
        · show Act.put _ (some 15) _ = _
          simp only [Act.put, sT_, sZ_, sS_, i64_w, i32_w, u8q_]
          rfl
        exact norm_ (by first | (simp only [putAll, Act.put, sT_, sZ_, sS_]; done) | (simp only [putAll, Act.put, sT_, sZ_, sS_]; rfl)) (hCont (vI, vO, vW) _ (Mk3.of (mk3WOI hW hgO hO hgI hwO hI hwI) hHeld))
  rintro ⟨vI, vO, vW⟩ w5 hM
  dsimp only at hM
  obtain ⟨AI, cI, eI⟩ := Kd.R_slice hM.ri
  obtain ⟨AO, cO, eO⟩ := Kd.R_slice hM.ro
  obtain ⟨AW, cW, eW⟩ := Kd.R_slice hM.rw_
  subst eI eO eW
  simp only [List.length_replicate] at hM
  have HM := Aside0.mk hM
  have hHeld := hM.below
  clear hM
  refine norm_ (a' := ?_) ?_ ?_
  rotate_left
  · simp only [putAll, Act.put, sT_, sZ_, sS_, List.length_replicate]
    rfl
  refine pure_ (i := 7) (N := some 20) (v := ?_) (a' := ?_) #[true, true, true, true, true, true, true, true, false, false] rfl rfl (any_of HT_.out (by kernel_rfl)) (fun _ _ _ h => h) (Or.inl ⟨by rfl, ?_⟩) ?_ ?_
  rotate_left
  · intro w'
    go_simp
    with_reducible rfl
  rotate_left
  · (try simp only [Act.put, sT_, sZ_, sS_, i64_w, i32_w, u8q_]); rfl
  refine one_ (i := 8) (N := some 21) #[true, true, true, true, true, true, true, true, true, false] rfl rfl (one_of HT_.out (by kernel_rfl)) (by decide) (fun K hK => ?_)
  refine box_step (by rfl) (N := 21) rfl (cs := #[.slice AS ss.length cS, .slice AG gs.length cG, .slice AK ks.length cK, .int .u64 st, .bool must, .bool back, .slice none 0 0, .slice none 0 0, .slice AI ss.length cI, .slice AO ss.length cO, .slice none 0 0, .slice AW ss.length cW]) (t := 43) ?hr ?_
  case hr => go_simp; try rfl
  intro g hg w6 hbox hb
  have HG := Aside0.mk hg
  have HBX := Aside0.mk hbox
  have HB6 := Aside0.mk hb
  clear hg hbox hb
  refine hK.out _ _ (below_step hHeld HB6.out) (fun hHeld => ?_)
  clear hK K
  refine norm_ (a' := ?_) ?_ ?_
  rotate_left
  · show Act.put _ (some 21) _ = _
    simp only [Act.put, sT_, sZ_, sS_, i64_w, i32_w, u8q_]
    rfl
  refine pure_ (i := 9) (N := some 5) (v := ?_) (a' := ?_) #[true, true, true, true, true, true, true, true, true, true] rfl rfl (any_of HT_.out (by kernel_rfl)) (fun _ _ _ h => h) (Or.inl ⟨by rfl, ?_⟩) ?_ ?_
  rotate_left
  · intro w'
    go_simp
    with_reducible rfl
  rotate_left
  · (try simp only [Act.put, sT_, sZ_, sS_, i64_w, i32_w, u8q_]); rfl
  refine done_ (done_of HT_.out (by kernel_rfl)) ?_
  try go_wp2
  have HB7 := Aside0.mk (Below.refl w6.heap.size w6)
  have HD0 : Aside0 (w6.cell? ⟨w.heap.size, 0, none⟩ = some (.slice AS ss.length cS)) := ⟨pw_cell_below hHeld HC0.out⟩
  have HRS7 := Aside0.mk (Kd.C_below HRS.out (below_step HB0.out hHeld))
  have HH6 := Aside0.mk hHeld
  clear hHeld
  clear HB7
  refine start_ (n := 14) (S := fun w' => Below w6.heap.size w6 w') (ds := [10, 13]) #[false, false, false, false, false, false, false, false, false, false, false, false, false, false] (by kernel_rfl) rfl rfl (below_drew (Below.refl _ _)) (fun hHeld => ?_)
  refine with_tab solT5 (fun HT_ => ?_)
  refine pure_ (i := 0) (N := some 22) (v := ?_) (a' := ?_) #[true, false, false, false, false, false, false, false, false, false, false, false, false, false] rfl rfl (any_of HT_.out (by kernel_rfl)) (fun _ _ _ h => h) (Or.inl ⟨by rfl, ?_⟩) ?_ ?_
  rotate_left
  · intro w'
    go_simp
    with_reducible rfl
  rotate_left
  · (try simp only [Act.put, sT_, sZ_, sS_, i64_w, i32_w, u8q_]); rfl
  refine pure_ (i := 1) (N := some 23) (v := ?_) (a' := ?_) #[true, true, false, false, false, false, false, false, false, false, false, false, false, false] rfl rfl (any_of HT_.out (by kernel_rfl)) (fun _ _ _ h => h) (Or.inl ⟨by rfl, ?_⟩) ?_ ?_
  rotate_left
  · intro w'
    go_simp
    with_reducible rfl
  rotate_left
  · (try simp only [Act.put, sT_, sZ_, sS_, i64_w, i32_w, u8q_]); rfl
  refine pure_ (i := 2) (N := some 24) (v := ?_) (a' := ?_) #[true, true, true, false, false, false, false, false, false, false, false, false, false, false] rfl rfl (any_of HT_.out (by kernel_rfl)) (fun _ _ _ h => h) (Or.inl ⟨by rfl, ?_⟩) ?_ ?_
  rotate_left
  · intro w'
    go_simp
    with_reducible rfl
  rotate_left
  · (try simp only [Act.put, sT_, sZ_, sS_, i64_w, i32_w, u8q_]); rfl
  refine pure_ (i := 5) (N := some 27) (v := ?_) (a' := ?_) #[true, true, true, false, false, true, false, false, false, false, false, false, false, false] rfl rfl (any_of HT_.out (by kernel_rfl)) (fun _ _ _ h => h) (Or.inl ⟨by rfl, ?_⟩) ?_ ?_
  rotate_left
  · intro w'
    go_simp
    with_reducible rfl
  rotate_left
  · (try simp only [Act.put, sT_, sZ_, sS_, i64_w, i32_w, u8q_]); rfl
  refine take_ (i := 3) (N := some 25) (v := ?_) (a' := ?_) #[true, true, true, true, false, true, false, false, false, false, false, false, false, false] rfl rfl (take_of HT_.out (by kernel_rfl)) (fun _ _ _ h => h) (Or.inl ⟨by rfl, ?_⟩) hHeld ?_ ?_
  rotate_left
  · intro w' hS'
    have hy0 := pw_cell_below hS' HD0.out
    go_simp
    with_reducible rfl
  rotate_left
  · (try simp only [Act.put, sT_, sZ_, sS_, i64_w, i32_w, u8q_]); rfl
  refine take_ (i := 6) (N := some 28) (v := ?_) (a' := ?_) #[true, true, true, true, false, true, true, false, false, false, false, false, false, false] rfl rfl (take_of HT_.out (by kernel_rfl)) (fun _ _ _ h => h) (Or.inl ⟨by rfl, ?_⟩) hHeld ?_ ?_
  rotate_left
  · intro w' hS'
    have hy0 := pw_cell_below hS' HD0.out
    go_simp
    with_reducible rfl
  rotate_left
  · (try simp only [Act.put, sT_, sZ_, sS_, i64_w, i32_w, u8q_]); rfl
  refine one_ (i := 4) (N := some 26) #[true, true, true, true, true, true, true, false, false, false, false, false, false, false] rfl rfl (one_of HT_.out (by kernel_rfl)) (by decide) (fun K hK => ?_)
  refine call_ 13 #[.slice AS ss.length cS] (by rfl) rfl ?hr ?_
  case hr => go_simp; try rfl
  refine (inside_any AS cS ss _ (Kd.C_below HRS7.out hHeld) HCS.out HN.out HL.out).mono ?_
  rintro e w8 ⟨vT, rfl, hT, hb⟩
  obtain ⟨AT, cT, eT, _⟩ := Kd.Q_slice hT
  subst eT
  rw [show (insideI ss).length = ss.length from List.length_map _] at hT
  have hbT := below_step hHeld hb
  have HT := Aside0.mk hT
  have HBT := Aside0.mk hb
  clear hT hb
  refine ⟨_, rfl, ?_⟩
  rw [show (insideI ss).length = ss.length from List.length_map _]
  refine hK.out _ _ (hbT) (fun hHeld => ?_)
  clear hK K
  refine norm_ (a' := ?_) ?_ ?_
  rotate_left
  · show Act.put _ (some 26) _ = _
    simp only [Act.put, sT_, sZ_, sS_, i64_w, i32_w, u8q_]
    rfl
  clear hbT
  refine one_ (i := 7) (N := some 29) #[true, true, true, true, true, true, true, true, false, false, false, false, false, false] rfl rfl (one_of HT_.out (by kernel_rfl)) (by decide) (fun K hK => ?_)
  refine call_ 14 #[.slice AS ss.length cS] (by rfl) rfl ?hr ?_
  case hr => go_simp; try rfl
  refine (cfg_Preds.calls kk AS cS ss ps _ (Kd.C_below HRS7.out hHeld) HCS.out HPS.out).mono ?_
  rintro e w9 ⟨vF, rfl, hF, hb⟩
  replace hF := Kd.S_R hF
  obtain ⟨AF, cF, eF⟩ := Kd.R_slice hF
  subst eF
  rw [HPL.out] at hF
  have hbF := below_step hHeld hb
  have HF := Aside0.mk hF
  have HBF := Aside0.mk hb
  clear hF hb
  refine ⟨_, rfl, ?_⟩
  rw [HPL.out]
  refine hK.out _ _ (hbF) (fun hHeld => ?_)
  clear hK K
  refine norm_ (a' := ?_) ?_ ?_
  rotate_left
  · show Act.put _ (some 29) _ = _
    simp only [Act.put, sT_, sZ_, sS_, i64_w, i32_w, u8q_]
    rfl
  have HB9 := Aside0.mk hHeld
  have BX9 := Aside0.mk (blk_below HBX.out hHeld)
  refine pure_ (i := 8) (N := some 30) (v := ?_) (a' := ?_) #[true, true, true, true, true, true, true, true, true, false, false, false, false, false] rfl rfl (any_of HT_.out (by kernel_rfl)) (fun _ _ _ h => h) (Or.inl ⟨by rfl, ?_⟩) ?_ ?_
  rotate_left
  · intro w'
    go_simp
    with_reducible rfl
  rotate_left
  · (try simp only [Act.put, sT_, sZ_, sS_, i64_w, i32_w, u8q_]); rfl
  refine pure_ (i := 9) (N := some 31) (v := ?_) (a' := ?_) #[true, true, true, true, true, true, true, true, true, true, false, false, false, false] rfl rfl (any_of HT_.out (by kernel_rfl)) (fun _ _ _ h => h) (Or.inl ⟨by rfl, ?_⟩) ?_ ?_
  rotate_left
  · intro w'
    go_simp
    with_reducible rfl
  rotate_left
  · (try simp only [Act.put, sT_, sZ_, sS_, i64_w, i32_w, u8q_]); rfl
  refine last_ (i := 10) (N := none) #[true, true, true, true, true, true, true, true, true, true, true, false, false, false] rfl rfl (one_of HT_.out (by kernel_rfl)) (by decide) (fun K hK => ?_)
  have hx0 := (blk_cell BX9.out 7).trans rfl
  have hf0 := blk_frozen BX9.out 7
  refine skip_ (w1 := (w9.setCell ⟨g, 7, none⟩ (.slice AT ss.length cT))) (by rfl) rfl ?hr ?_
  case hr => go_simp; try rfl
  clear hx0 hf0
  have BXA : Aside0 ((w9.setCell ⟨g, 7, none⟩ (.slice AT ss.length cT)).heap[g]? = some (.cells #[.slice AS ss.length cS, .slice AG gs.length cG, .slice AK ks.length cK, .int .u64 st, .bool must, .bool back, .slice none 0 0, .slice AT ss.length cT, .slice AI ss.length cI, .slice AO ss.length cO, .slice none 0 0, .slice AW ss.length cW] 43 (0, 0))) := ⟨blk_put (cs := #[.slice AS ss.length cS, .slice AG gs.length cG, .slice AK ks.length cK, .int .u64 st, .bool must, .bool back, .slice none 0 0, .slice none 0 0, .slice AI ss.length cI, .slice AO ss.length cO, .slice none 0 0, .slice AW ss.length cW]) BX9.out 7 _ rfl⟩
  obtain ⟨wa, hwa⟩ : ∃ wa, wa = w9.setCell ⟨g, 7, none⟩ (.slice AT ss.length cT) := ⟨_, rfl⟩
  rw [← hwa] at BXA
  rw [← hwa]
  have HWA := Aside0.mk hwa
  clear hwa
  refine hK.out _ _ ?_
  clear hK K
  refine norm_ (a' := ?_) ?_ ?_
  rotate_left
  · rfl
  refine pure_ (i := 11) (N := some 32) (v := ?_) (a' := ?_) #[true, true, true, true, true, true, true, true, true, true, true, true, false, false] rfl rfl (any_of HT_.out (by kernel_rfl)) (fun _ _ _ h => h) (Or.inl ⟨by rfl, ?_⟩) ?_ ?_
  rotate_left
  · intro w'
    go_simp
    with_reducible rfl
  rotate_left
  · (try simp only [Act.put, sT_, sZ_, sS_, i64_w, i32_w, u8q_]); rfl
  refine pure_ (i := 12) (N := some 33) (v := ?_) (a' := ?_) #[true, true, true, true, true, true, true, true, true, true, true, true, true, false] rfl rfl (any_of HT_.out (by kernel_rfl)) (fun _ _ _ h => h) (Or.inl ⟨by rfl, ?_⟩) ?_ ?_
  rotate_left
  · intro w'
    go_simp
    with_reducible rfl
  rotate_left
  · (try simp only [Act.put, sT_, sZ_, sS_, i64_w, i32_w, u8q_]); rfl
  refine last_ (i := 13) (N := none) #[true, true, true, true, true, true, true, true, true, true, true, true, true, true] rfl rfl (one_of HT_.out (by kernel_rfl)) (by decide) (fun K hK => ?_)
  have hx0 := (blk_cell BXA.out 6).trans rfl
  have hf0 := blk_frozen BXA.out 6
  refine skip_ (w1 := (wa.setCell ⟨g, 6, none⟩ (.slice AF ss.length cF))) (by rfl) rfl ?hr ?_
  case hr => go_simp; try rfl
  clear hx0 hf0
  have BXB : Aside0 ((wa.setCell ⟨g, 6, none⟩ (.slice AF ss.length cF)).heap[g]? = some (.cells #[.slice AS ss.length cS, .slice AG gs.length cG, .slice AK ks.length cK, .int .u64 st, .bool must, .bool back, .slice AF ss.length cF, .slice AT ss.length cT, .slice AI ss.length cI, .slice AO ss.length cO, .slice none 0 0, .slice AW ss.length cW] 43 (0, 0))) := ⟨blk_put (cs := #[.slice AS ss.length cS, .slice AG gs.length cG, .slice AK ks.length cK, .int .u64 st, .bool must, .bool back, .slice none 0 0, .slice AT ss.length cT, .slice AI ss.length cI, .slice AO ss.length cO, .slice none 0 0, .slice AW ss.length cW]) BXA.out 6 _ rfl⟩
  obtain ⟨wb, hwb⟩ : ∃ wb, wb = wa.setCell ⟨g, 6, none⟩ (.slice AF ss.length cF) := ⟨_, rfl⟩
  rw [← hwb] at BXB
  rw [← hwb]
  have HWB := Aside0.mk hwb
  clear hwb
  refine hK.out _ _ ?_
  clear hK K
  refine norm_ (a' := ?_) ?_ ?_
  rotate_left
  · rfl
  refine done_ (done_of HT_.out (by kernel_rfl)) ?_
  have hBT6 : Aside0 (w6.heap.size ≤ w8.heap.size) := ⟨HBT.out.size⟩
  have HBb : Aside0 (wb.cell? ⟨w.heap.size, 5, none⟩ = some (.bool back)) := ⟨by
    rw [HWB.out, HWA.out]
    exact pw_cell_below (below_set (below_set (below_step HM.out.below (below_step HB6.out HB9.out)) (by rw [HG.out]; exact below_size HM.out.below)) (by rw [HG.out]; exact below_size HM.out.below)) HC5.out⟩
  have hxb := HBb.out
  clear HBb
  have HWW : Aside0 (w.heap.size < w0.heap.size) := ⟨blk_lt_cell HC5.out⟩
  cases back
  focus
    try go_wp2
    clear hxb
    have HG0 : Aside0 (w0.heap.size ≤ g) := ⟨by rw [HG.out]; exact below_size HM.out.below⟩
    have HG5 : Aside0 (w5.heap.size ≤ g) := ⟨by rw [HG.out]; exact Nat.le_refl _⟩
    have HGL : Aside0 (g < w6.heap.size) := ⟨blk_lt HBX.out⟩
    have HLH : Aside0 (w6.heap.size ≤ w9.heap.size) := ⟨HB9.out.size⟩
    obtain ⟨D, hD⟩ : ∃ D : SvD, D = ⟨w0.heap.size, w6.heap.size, w9.heap.size, g, .slice AS ss.length cS, .slice AG gs.length cG, .slice AK ks.length cK, st, must, false, .slice AF ss.length cF, .slice AT ss.length cT, .slice AI ss.length cI, .slice AO ss.length cO, .slice AW ss.length cW, ss.length⟩ := ⟨_, rfl⟩
    have SF : Aside0 (SvF D w9 wb) := ⟨by
        rw [HWB.out, HWA.out]; subst hD; exact ((SvF.refl _ _).setG HG0.out HGL.out 7 _).setG HG0.out HGL.out 6 _⟩
    have HB5b : Aside0 (Below w5.heap.size w5 wb) := ⟨by rw [HWB.out, HWA.out]; exact below_set (below_set (below_step HB6.out HB9.out) HG5.out) HG5.out⟩
    have HB5 := HB5b
    have HB0z := Aside0.mk (below_step HM.out.below HB5.out)
    have HZ9 : Aside0 (w9.heap.size ≤ wb.heap.size) := ⟨by
        rw [HWB.out, HWA.out]; simp only [World.size_setCell]; exact Nat.le_refl _⟩
    have HSV : Aside0 (Sv D wb (.slice none 0 0) (List.replicate ss.length 0) (List.replicate ss.length 0) (List.replicate ss.length false) []) := ⟨by subst hD; exact Sv.begin _ HM.out.toM3 HB5.out HG.out HG0.out HGL.out HLH.out HZ9.out BXB.out⟩
    have FTT : Aside0 (FutL D wb (.slice AT ss.length cT) (insideI ss)) := ⟨FutL.on (by subst hD; exact Fut.of_Q (D := ⟨w0.heap.size, w6.heap.size, w9.heap.size, g, .slice AS ss.length cS, .slice AG gs.length cG, .slice AK ks.length cK, st, must, false, .slice AF ss.length cF, .slice AT ss.length cT, .slice AI ss.length cI, .slice AO ss.length cO, .slice AW ss.length cW, ss.length⟩) (Kd.Q_mono (Kd.Q_below (Kd.Q_bound HT.out) HBF.out) (fun k hk => ⟨hk.1, Nat.lt_of_lt_of_le hk.2.2.1 HBF.out.size⟩))) SF.out⟩
    have FFF : Aside0 (FutL D wb (.slice AF ss.length cF) ps) := ⟨FutL.on (by subst hD; exact Fut.of_Q (D := ⟨w0.heap.size, w6.heap.size, w9.heap.size, g, .slice AS ss.length cS, .slice AG gs.length cG, .slice AK ks.length cK, st, must, false, .slice AF ss.length cF, .slice AT ss.length cT, .slice AI ss.length cI, .slice AO ss.length cO, .slice AW ss.length cW, ss.length⟩) (Kd.Q_of_R (Kd.R_mono (Kd.R_bound HF.out) (fun k hk => ⟨Nat.le_trans hBT6.out hk.2.1, hk.2.2.1⟩)))) SF.out⟩
    have FS : Aside0 (Fut (Kd.slice 3 (Kd.int .i64)) D wb (.slice AS ss.length cS) ss) := ⟨Fut.of_elder (Kd.C_below HRS.out HB0.out) HCS.out (by subst hD; rfl) HB0z.out⟩
    have FG : Aside0 (Fut (Kd.int .u64) D wb (.slice AG gs.length cG) gs) := ⟨Fut.of_elder (Kd.C_below HRG.out HB0.out) HCG.out (by subst hD; rfl) HB0z.out⟩
    have FK : Aside0 (Fut (Kd.int .u64) D wb (.slice AK ks.length cK) ks) := ⟨Fut.of_elder (Kd.C_below HRK.out HB0.out) HCK.out (by subst hD; rfl) HB0z.out⟩
    have HBK : Aside0 (wb.cell? ⟨w.heap.size, 5, none⟩ = some (.bool false)) := ⟨pw_cell_below HB0z.out HC5.out⟩
    have LFR : (ps).length = ss.length := HPL.out
    have LTT : (insideI ss).length = ss.length := List.length_map _
    obtain ⟨bk, hbk⟩ : ∃ b : Bool, b = false := ⟨_, rfl⟩
    have LOOK : Aside0 (∀ w' vQ ins outs ws q, Sv D w' vQ ins outs ws q → SvF D wb w' → ∀ i e, edgO k0 bk ss i = some e → okI ss.length (ps) (insideI ss) i q = true → Calls Try.prog 17 #[.pointer (some ⟨g, 0, none⟩), .int .i64 i] w' (LookP D w' (lookJ must st e (rd_L1 (ps) i) (rd_L1 (insideI ss) i) gs ks i ins outs (ws, q)))) := ⟨by
        intro w' vQ ins outs ws q hs hf i e he hok
        subst hbk
        simp only [okI, Bool.and_eq_true, decide_eq_true_eq] at hok
        obtain ⟨⟨⟨⟨h0, h1⟩, h2⟩, h3⟩, h4⟩ := hok
        have F1 := FTT.out.on hf; have F2 := FFF.out.on hf; have F3 := FS.out.on hf; have F4 := FG.out.on hf; have F5 := FK.out.on hf
        have hss : ss.length = D.n := by subst hD; rfl
        clear FTT FFF FS FG FK HSV SF HBK
        have hE : if D.back = true then slices_Contains_int_int.f k0 (rd_L1 ss i) (ss.length : Int) = some e else e = (i == 0) := by subst hD; exact (Option.some.inj he).symm
        have H := look_any hs k0 ss (ps) (insideI ss) gs ks (by subst hD; exact F3) (by subst hD; exact F2) (by subst hD; exact F1) (by subst hD; exact F4) (by subst hD; exact F5) hss (LFR.trans hss) (LTT.trans hss) i h0 (by rw [← hss]; exact h1) e hE (by rw [← hss]; exact inR_get h2) (by rw [← hss]; exact inR_get h3) h4
        subst hD; exact H⟩
    have PUSH : Aside0 (∀ w' vQ ins outs ws q, Sv D w' vQ ins outs ws q → ∀ i, 0 ≤ i → i < (ss.length : Int) → q.length ≤ 1000000 → Calls Try.prog 16 #[.pointer (some ⟨g, 0, none⟩), .int .i64 i] w' (SvP D w' ins outs (pushI i (ws, q)))) := ⟨by
        intro w' vQ ins outs ws q hs i h0 h1 hq; clear FTT FFF FS FG FK HSV SF HBK LOOK; subst hD; exact push_any hs i h0 h1 hq⟩
    have CEL : Aside0 (∀ w' vQ ins outs ws q, Sv D w' vQ ins outs ws q → w'.cell? ⟨g, 4, none⟩ = some (.bool must) ∧ w'.cell? ⟨g, 8, none⟩ = some (.slice AI ss.length cI) ∧ w'.cell? ⟨g, 9, none⟩ = some (.slice AO ss.length cO) ∧ w'.cell? ⟨g, 10, none⟩ = some vQ ∧ w'.cell? ⟨g, 11, none⟩ = some (.slice AW ss.length cW) ∧ w'.frozen? ⟨g, 10, none⟩ = false) := ⟨by
        intro w' vQ ins outs ws q hs; clear FTT FFF FS FG FK HSV SF HBK LOOK PUSH; subst hD; exact ⟨hs.cell 4, hs.cell 8, hs.cell 9, hs.cell 10, hs.cell 11, blk_frozen hs.blk 10⟩⟩
    have DEQ : Aside0 (D.B = w0.heap.size ∧ D.g = g ∧ D.n = ss.length ∧ D.must = must ∧ D.vI = .slice AI ss.length cI ∧ D.vO = .slice AO ss.length cO ∧ D.vW = .slice AW ss.length cW) := ⟨by clear FTT FFF FS FG FK HSV SF HBK LOOK PUSH CEL; subst hD; exact ⟨rfl, rfl, rfl, rfl, rfl, rfl, rfl⟩⟩
    have HSL : Aside0 (solveI k0 ss (ps) (insideI ss) gs ks st must bk kk (List.replicate ss.length (alI must)) (List.replicate ss.length (alI must)) (List.replicate ss.length true) (upTo ss.length) = some res) := ⟨by subst hbk; exact HSOL.out⟩
    have HRB : Aside0 (rr = if bk = true then (res.2, res.1) else res) := ⟨by subst hbk; exact HRR.out⟩
    have HBK' : Aside0 (wb.cell? ⟨w.heap.size, 5, none⟩ = some (.bool bk)) := ⟨by subst hbk; exact HBK.out⟩
    obtain ⟨fr, hfr⟩ : ∃ x, x = (ps) := ⟨_, rfl⟩
    obtain ⟨tt, htt⟩ : ∃ x, x = (insideI ss) := ⟨_, rfl⟩
    rw [← hfr, ← htt] at LOOK HSL
    clear hfr htt LFR LTT hD FTT FFF FS FG FK SF HB5b HB5 HM HG HBX HB6 HT HBT HF HBF HB9 BX9 BXA HWA HWB BXB HZ9 HLH HGL HG5 HSOL HPS HPL hBT6 HC0 HC1 HC2 HC3 HC4 HC5 HD0 HRS7 HH6 HX0
    clear hbk HRR HBK
    generalize wb = wz at *
  rotate_left
  focus
    try go_wp2
    clear hxb
    refine start_ (n := 16) (S := fun w' => Below wb.heap.size wb w') (ds := [12, 15]) #[false, false, false, false, false, false, false, false, false, false, false, false, false, false, false, false] (by kernel_rfl) rfl rfl (below_drew (Below.refl _ _)) (fun hHeld => ?_)
    refine with_tab solT7 (fun HT_ => ?_)
    refine pure_ (i := 0) (N := some 36) (v := ?_) (a' := ?_) #[true, false, false, false, false, false, false, false, false, false, false, false, false, false, false, false] rfl rfl (any_of HT_.out (by kernel_rfl)) (fun _ _ _ h => h) (Or.inl ⟨by rfl, ?_⟩) ?_ ?_
    rotate_left
    · intro w'
      go_simp
      with_reducible rfl
    rotate_left
    · (try simp only [Act.put, sT_, sZ_, sS_, i64_w, i32_w, u8q_]); rfl
    refine pure_ (i := 1) (N := some 37) (v := ?_) (a' := ?_) #[true, true, false, false, false, false, false, false, false, false, false, false, false, false, false, false] rfl rfl (any_of HT_.out (by kernel_rfl)) (fun _ _ _ h => h) (Or.inl ⟨by rfl, ?_⟩) ?_ ?_
    rotate_left
    · intro w'
      go_simp
      with_reducible rfl
    rotate_left
    · (try simp only [Act.put, sT_, sZ_, sS_, i64_w, i32_w, u8q_]); rfl
    refine pure_ (i := 2) (N := some 38) (v := ?_) (a' := ?_) #[true, true, true, false, false, false, false, false, false, false, false, false, false, false, false, false] rfl rfl (any_of HT_.out (by kernel_rfl)) (fun _ _ _ h => h) (Or.inl ⟨by rfl, ?_⟩) ?_ ?_
    rotate_left
    · intro w'
      go_simp
      with_reducible rfl
    rotate_left
    · (try simp only [Act.put, sT_, sZ_, sS_, i64_w, i32_w, u8q_]); rfl
    refine pure_ (i := 3) (N := some 39) (v := ?_) (a' := ?_) #[true, true, true, true, false, false, false, false, false, false, false, false, false, false, false, false] rfl rfl (any_of HT_.out (by kernel_rfl)) (fun _ _ _ h => h) (Or.inl ⟨by rfl, ?_⟩) ?_ ?_
    rotate_left
    · intro w'
      go_simp
      with_reducible rfl
    rotate_left
    · (try simp only [Act.put, sT_, sZ_, sS_, i64_w, i32_w, u8q_]); rfl
    refine pure_ (i := 4) (N := some 40) (v := ?_) (a' := ?_) #[true, true, true, true, true, false, false, false, false, false, false, false, false, false, false, false] rfl rfl (any_of HT_.out (by kernel_rfl)) (fun _ _ _ h => h) (Or.inl ⟨by rfl, ?_⟩) ?_ ?_
    rotate_left
    · intro w'
      go_simp
      with_reducible rfl
    rotate_left
    · (try simp only [Act.put, sT_, sZ_, sS_, i64_w, i32_w, u8q_]); rfl
    refine take_ (i := 5) (N := some 41) (v := ?_) (a' := ?_) #[true, true, true, true, true, true, false, false, false, false, false, false, false, false, false, false] rfl rfl (take_of HT_.out (by kernel_rfl)) (fun _ _ _ h => h) (Or.inl ⟨by rfl, ?_⟩) hHeld ?_ ?_
    rotate_left
    · intro w' hS'
      have hy0 := (blk_cell (blk_below BXB.out hS') 6).trans rfl
      go_simp
      with_reducible rfl
    rotate_left
    · (try simp only [Act.put, sT_, sZ_, sS_, i64_w, i32_w, u8q_]); rfl
    refine pure_ (i := 6) (N := some 42) (v := ?_) (a' := ?_) #[true, true, true, true, true, true, true, false, false, false, false, false, false, false, false, false] rfl rfl (any_of HT_.out (by kernel_rfl)) (fun _ _ _ h => h) (Or.inl ⟨by rfl, ?_⟩) ?_ ?_
    rotate_left
    · intro w'
      go_simp
      with_reducible rfl
    rotate_left
    · (try simp only [Act.put, sT_, sZ_, sS_, i64_w, i32_w, u8q_]); rfl
    refine pure_ (i := 7) (N := some 43) (v := ?_) (a' := ?_) #[true, true, true, true, true, true, true, true, false, false, false, false, false, false, false, false] rfl rfl (any_of HT_.out (by kernel_rfl)) (fun _ _ _ h => h) (Or.inl ⟨by rfl, ?_⟩) ?_ ?_
    rotate_left
    · intro w'
      go_simp
      with_reducible rfl
    rotate_left
    · (try simp only [Act.put, sT_, sZ_, sS_, i64_w, i32_w, u8q_]); rfl
    refine pure_ (i := 8) (N := some 44) (v := ?_) (a' := ?_) #[true, true, true, true, true, true, true, true, true, false, false, false, false, false, false, false] rfl rfl (any_of HT_.out (by kernel_rfl)) (fun _ _ _ h => h) (Or.inl ⟨by rfl, ?_⟩) ?_ ?_
    rotate_left
    · intro w'
      go_simp
      with_reducible rfl
    rotate_left
    · (try simp only [Act.put, sT_, sZ_, sS_, i64_w, i32_w, u8q_]); rfl
    refine take_ (i := 9) (N := some 45) (v := ?_) (a' := ?_) #[true, true, true, true, true, true, true, true, true, true, false, false, false, false, false, false] rfl rfl (take_of HT_.out (by kernel_rfl)) (fun _ _ _ h => h) (Or.inl ⟨by rfl, ?_⟩) hHeld ?_ ?_
    rotate_left
    · intro w' hS'
      have hy0 := (blk_cell (blk_below BXB.out hS') 7).trans rfl
      go_simp
      with_reducible rfl
    rotate_left
    · (try simp only [Act.put, sT_, sZ_, sS_, i64_w, i32_w, u8q_]); rfl
    have HBC := Aside0.mk hHeld
    have BXC := Aside0.mk (blk_below BXB.out hHeld)
    generalize wb.drew = wc at HBC BXC hHeld ⊢
    refine pure_ (i := 10) (N := some 46) (v := ?_) (a' := ?_) #[true, true, true, true, true, true, true, true, true, true, true, false, false, false, false, false] rfl rfl (any_of HT_.out (by kernel_rfl)) (fun _ _ _ h => h) (Or.inl ⟨by rfl, ?_⟩) ?_ ?_
    rotate_left
    · intro w'
      go_simp
      with_reducible rfl
    rotate_left
    · (try simp only [Act.put, sT_, sZ_, sS_, i64_w, i32_w, u8q_]); rfl
    refine pure_ (i := 11) (N := some 47) (v := ?_) (a' := ?_) #[true, true, true, true, true, true, true, true, true, true, true, true, false, false, false, false] rfl rfl (any_of HT_.out (by kernel_rfl)) (fun _ _ _ h => h) (Or.inl ⟨by rfl, ?_⟩) ?_ ?_
    rotate_left
    · intro w'
      go_simp
      with_reducible rfl
    rotate_left
    · (try simp only [Act.put, sT_, sZ_, sS_, i64_w, i32_w, u8q_]); rfl
    refine last_ (i := 12) (N := none) #[true, true, true, true, true, true, true, true, true, true, true, true, true, false, false, false] rfl rfl (one_of HT_.out (by kernel_rfl)) (by decide) (fun K hK => ?_)
    have hx0 := (blk_cell BXC.out 7).trans rfl
    have hf0 := blk_frozen BXC.out 7
    refine skip_ (w1 := (wc.setCell ⟨g, 7, none⟩ (.slice AF ss.length cF))) (by rfl) rfl ?hr ?_
    case hr => go_simp; try rfl
    clear hx0 hf0
    have BXD : Aside0 ((wc.setCell ⟨g, 7, none⟩ (.slice AF ss.length cF)).heap[g]? = some (.cells #[.slice AS ss.length cS, .slice AG gs.length cG, .slice AK ks.length cK, .int .u64 st, .bool must, .bool true, .slice AF ss.length cF, .slice AF ss.length cF, .slice AI ss.length cI, .slice AO ss.length cO, .slice none 0 0, .slice AW ss.length cW] 43 (0, 0))) := ⟨blk_put (cs := #[.slice AS ss.length cS, .slice AG gs.length cG, .slice AK ks.length cK, .int .u64 st, .bool must, .bool true, .slice AF ss.length cF, .slice AT ss.length cT, .slice AI ss.length cI, .slice AO ss.length cO, .slice none 0 0, .slice AW ss.length cW]) BXC.out 7 _ rfl⟩
    obtain ⟨wd, hwd⟩ : ∃ wd, wd = wc.setCell ⟨g, 7, none⟩ (.slice AF ss.length cF) := ⟨_, rfl⟩
    rw [← hwd] at BXD
    rw [← hwd]
    have HWD := Aside0.mk hwd
    clear hwd
    refine hK.out _ _ ?_
    clear hK K
    refine norm_ (a' := ?_) ?_ ?_
    rotate_left
    · rfl
    refine pure_ (i := 13) (N := some 48) (v := ?_) (a' := ?_) #[true, true, true, true, true, true, true, true, true, true, true, true, true, true, false, false] rfl rfl (any_of HT_.out (by kernel_rfl)) (fun _ _ _ h => h) (Or.inl ⟨by rfl, ?_⟩) ?_ ?_
    rotate_left
    · intro w'
      go_simp
      with_reducible rfl
    rotate_left
    · (try simp only [Act.put, sT_, sZ_, sS_, i64_w, i32_w, u8q_]); rfl
    refine pure_ (i := 14) (N := some 49) (v := ?_) (a' := ?_) #[true, true, true, true, true, true, true, true, true, true, true, true, true, true, true, false] rfl rfl (any_of HT_.out (by kernel_rfl)) (fun _ _ _ h => h) (Or.inl ⟨by rfl, ?_⟩) ?_ ?_
    rotate_left
    · intro w'
      go_simp
      with_reducible rfl
    rotate_left
    · (try simp only [Act.put, sT_, sZ_, sS_, i64_w, i32_w, u8q_]); rfl
    refine last_ (i := 15) (N := none) #[true, true, true, true, true, true, true, true, true, true, true, true, true, true, true, true] rfl rfl (one_of HT_.out (by kernel_rfl)) (by decide) (fun K hK => ?_)
    have hx0 := (blk_cell BXD.out 6).trans rfl
    have hf0 := blk_frozen BXD.out 6
    refine skip_ (w1 := (wd.setCell ⟨g, 6, none⟩ (.slice AT ss.length cT))) (by rfl) rfl ?hr ?_
    case hr => go_simp; try rfl
    clear hx0 hf0
    have BXE : Aside0 ((wd.setCell ⟨g, 6, none⟩ (.slice AT ss.length cT)).heap[g]? = some (.cells #[.slice AS ss.length cS, .slice AG gs.length cG, .slice AK ks.length cK, .int .u64 st, .bool must, .bool true, .slice AT ss.length cT, .slice AF ss.length cF, .slice AI ss.length cI, .slice AO ss.length cO, .slice none 0 0, .slice AW ss.length cW] 43 (0, 0))) := ⟨blk_put (cs := #[.slice AS ss.length cS, .slice AG gs.length cG, .slice AK ks.length cK, .int .u64 st, .bool must, .bool true, .slice AF ss.length cF, .slice AF ss.length cF, .slice AI ss.length cI, .slice AO ss.length cO, .slice none 0 0, .slice AW ss.length cW]) BXD.out 6 _ rfl⟩
    obtain ⟨we, hwe⟩ : ∃ we, we = wd.setCell ⟨g, 6, none⟩ (.slice AT ss.length cT) := ⟨_, rfl⟩
    rw [← hwe] at BXE
    rw [← hwe]
    have HWE := Aside0.mk hwe
    clear hwe
    refine hK.out _ _ ?_
    clear hK K
    refine norm_ (a' := ?_) ?_ ?_
    rotate_left
    · rfl
    refine done_ (done_of HT_.out (by kernel_rfl)) ?_
    try go_wp2
    have HG0 : Aside0 (w0.heap.size ≤ g) := ⟨by rw [HG.out]; exact below_size HM.out.below⟩
    have HG5 : Aside0 (w5.heap.size ≤ g) := ⟨by rw [HG.out]; exact Nat.le_refl _⟩
    have HGL : Aside0 (g < w6.heap.size) := ⟨blk_lt HBX.out⟩
    have HLH : Aside0 (w6.heap.size ≤ w9.heap.size) := ⟨HB9.out.size⟩
    obtain ⟨D, hD⟩ : ∃ D : SvD, D = ⟨w0.heap.size, w6.heap.size, w9.heap.size, g, .slice AS ss.length cS, .slice AG gs.length cG, .slice AK ks.length cK, st, must, true, .slice AT ss.length cT, .slice AF ss.length cF, .slice AI ss.length cI, .slice AO ss.length cO, .slice AW ss.length cW, ss.length⟩ := ⟨_, rfl⟩
    have SF : Aside0 (SvF D w9 we) := ⟨by
        rw [HWE.out, HWD.out]; subst hD; exact (((SvF.later (w' := wb) (by rw [HWB.out, HWA.out]; exact ((SvF.refl _ _).setG HG0.out HGL.out 7 _).setG HG0.out HGL.out 6 _) HBC.out (by rw [HWB.out, HWA.out]; simp only [World.size_setCell]; exact Nat.le_trans HG0.out (Nat.le_trans (Nat.le_of_lt HGL.out) HLH.out)) (by rw [HWB.out, HWA.out]; simp only [World.size_setCell]; exact Nat.le_refl _)).setG HG0.out HGL.out 7 _).setG HG0.out HGL.out 6 _)⟩
    have HB5b : Aside0 (Below w5.heap.size w5 wb) := ⟨by rw [HWB.out, HWA.out]; exact below_set (below_set (below_step HB6.out HB9.out) HG5.out) HG5.out⟩
    have HB5 : Aside0 (Below w5.heap.size w5 we) := ⟨by rw [HWE.out, HWD.out]; exact below_set (below_set (below_step HB5b.out HBC.out) HG5.out) HG5.out⟩
    have HB0z := Aside0.mk (below_step HM.out.below HB5.out)
    have HZ9 : Aside0 (w9.heap.size ≤ we.heap.size) := ⟨by
        rw [HWE.out, HWD.out]; simp only [World.size_setCell]; refine Nat.le_trans ?_ HBC.out.size; rw [HWB.out, HWA.out]; simp only [World.size_setCell]; exact Nat.le_refl _⟩
    have HSV : Aside0 (Sv D we (.slice none 0 0) (List.replicate ss.length 0) (List.replicate ss.length 0) (List.replicate ss.length false) []) := ⟨by subst hD; exact Sv.begin _ HM.out.toM3 HB5.out HG.out HG0.out HGL.out HLH.out HZ9.out BXE.out⟩
    have FTT : Aside0 (FutL D we (.slice AT ss.length cT) (insideI ss)) := ⟨FutL.on (by subst hD; exact Fut.of_Q (D := ⟨w0.heap.size, w6.heap.size, w9.heap.size, g, .slice AS ss.length cS, .slice AG gs.length cG, .slice AK ks.length cK, st, must, true, .slice AT ss.length cT, .slice AF ss.length cF, .slice AI ss.length cI, .slice AO ss.length cO, .slice AW ss.length cW, ss.length⟩) (Kd.Q_mono (Kd.Q_below (Kd.Q_bound HT.out) HBF.out) (fun k hk => ⟨hk.1, Nat.lt_of_lt_of_le hk.2.2.1 HBF.out.size⟩))) SF.out⟩
    have FFF : Aside0 (FutL D we (.slice AF ss.length cF) ps) := ⟨FutL.on (by subst hD; exact Fut.of_Q (D := ⟨w0.heap.size, w6.heap.size, w9.heap.size, g, .slice AS ss.length cS, .slice AG gs.length cG, .slice AK ks.length cK, st, must, true, .slice AT ss.length cT, .slice AF ss.length cF, .slice AI ss.length cI, .slice AO ss.length cO, .slice AW ss.length cW, ss.length⟩) (Kd.Q_of_R (Kd.R_mono (Kd.R_bound HF.out) (fun k hk => ⟨Nat.le_trans hBT6.out hk.2.1, hk.2.2.1⟩)))) SF.out⟩
    have FS : Aside0 (Fut (Kd.slice 3 (Kd.int .i64)) D we (.slice AS ss.length cS) ss) := ⟨Fut.of_elder (Kd.C_below HRS.out HB0.out) HCS.out (by subst hD; rfl) HB0z.out⟩
    have FG : Aside0 (Fut (Kd.int .u64) D we (.slice AG gs.length cG) gs) := ⟨Fut.of_elder (Kd.C_below HRG.out HB0.out) HCG.out (by subst hD; rfl) HB0z.out⟩
    have FK : Aside0 (Fut (Kd.int .u64) D we (.slice AK ks.length cK) ks) := ⟨Fut.of_elder (Kd.C_below HRK.out HB0.out) HCK.out (by subst hD; rfl) HB0z.out⟩
    have HBK : Aside0 (we.cell? ⟨w.heap.size, 5, none⟩ = some (.bool true)) := ⟨pw_cell_below HB0z.out HC5.out⟩
    have LFR : (insideI ss).length = ss.length := List.length_map _
    have LTT : (ps).length = ss.length := HPL.out
    obtain ⟨bk, hbk⟩ : ∃ b : Bool, b = true := ⟨_, rfl⟩
    have LOOK : Aside0 (∀ w' vQ ins outs ws q, Sv D w' vQ ins outs ws q → SvF D we w' → ∀ i e, edgO k0 bk ss i = some e → okI ss.length (insideI ss) (ps) i q = true → Calls Try.prog 17 #[.pointer (some ⟨g, 0, none⟩), .int .i64 i] w' (LookP D w' (lookJ must st e (rd_L1 (insideI ss) i) (rd_L1 (ps) i) gs ks i ins outs (ws, q)))) := ⟨by
        intro w' vQ ins outs ws q hs hf i e he hok
        subst hbk
        simp only [okI, Bool.and_eq_true, decide_eq_true_eq] at hok
        obtain ⟨⟨⟨⟨h0, h1⟩, h2⟩, h3⟩, h4⟩ := hok
        have F1 := FTT.out.on hf; have F2 := FFF.out.on hf; have F3 := FS.out.on hf; have F4 := FG.out.on hf; have F5 := FK.out.on hf
        have hss : ss.length = D.n := by subst hD; rfl
        clear FTT FFF FS FG FK HSV SF HBK
        have hE : if D.back = true then slices_Contains_int_int.f k0 (rd_L1 ss i) (ss.length : Int) = some e else e = (i == 0) := by subst hD; exact he
        have H := look_any hs k0 ss (insideI ss) (ps) gs ks (by subst hD; exact F3) (by subst hD; exact F1) (by subst hD; exact F2) (by subst hD; exact F4) (by subst hD; exact F5) hss (LFR.trans hss) (LTT.trans hss) i h0 (by rw [← hss]; exact h1) e hE (by rw [← hss]; exact inR_get h2) (by rw [← hss]; exact inR_get h3) h4
        subst hD; exact H⟩
    have PUSH : Aside0 (∀ w' vQ ins outs ws q, Sv D w' vQ ins outs ws q → ∀ i, 0 ≤ i → i < (ss.length : Int) → q.length ≤ 1000000 → Calls Try.prog 16 #[.pointer (some ⟨g, 0, none⟩), .int .i64 i] w' (SvP D w' ins outs (pushI i (ws, q)))) := ⟨by
        intro w' vQ ins outs ws q hs i h0 h1 hq; clear FTT FFF FS FG FK HSV SF HBK LOOK; subst hD; exact push_any hs i h0 h1 hq⟩
    have CEL : Aside0 (∀ w' vQ ins outs ws q, Sv D w' vQ ins outs ws q → w'.cell? ⟨g, 4, none⟩ = some (.bool must) ∧ w'.cell? ⟨g, 8, none⟩ = some (.slice AI ss.length cI) ∧ w'.cell? ⟨g, 9, none⟩ = some (.slice AO ss.length cO) ∧ w'.cell? ⟨g, 10, none⟩ = some vQ ∧ w'.cell? ⟨g, 11, none⟩ = some (.slice AW ss.length cW) ∧ w'.frozen? ⟨g, 10, none⟩ = false) := ⟨by
        intro w' vQ ins outs ws q hs; clear FTT FFF FS FG FK HSV SF HBK LOOK PUSH; subst hD; exact ⟨hs.cell 4, hs.cell 8, hs.cell 9, hs.cell 10, hs.cell 11, blk_frozen hs.blk 10⟩⟩
    have DEQ : Aside0 (D.B = w0.heap.size ∧ D.g = g ∧ D.n = ss.length ∧ D.must = must ∧ D.vI = .slice AI ss.length cI ∧ D.vO = .slice AO ss.length cO ∧ D.vW = .slice AW ss.length cW) := ⟨by clear FTT FFF FS FG FK HSV SF HBK LOOK PUSH CEL; subst hD; exact ⟨rfl, rfl, rfl, rfl, rfl, rfl, rfl⟩⟩
    have HSL : Aside0 (solveI k0 ss (insideI ss) (ps) gs ks st must bk kk (List.replicate ss.length (alI must)) (List.replicate ss.length (alI must)) (List.replicate ss.length true) (upTo ss.length) = some res) := ⟨by subst hbk; exact HSOL.out⟩
    have HRB : Aside0 (rr = if bk = true then (res.2, res.1) else res) := ⟨by subst hbk; exact HRR.out⟩
    have HBK' : Aside0 (we.cell? ⟨w.heap.size, 5, none⟩ = some (.bool bk)) := ⟨by subst hbk; exact HBK.out⟩
    obtain ⟨fr, hfr⟩ : ∃ x, x = (insideI ss) := ⟨_, rfl⟩
    obtain ⟨tt, htt⟩ : ∃ x, x = (ps) := ⟨_, rfl⟩
    rw [← hfr, ← htt] at LOOK HSL
    clear hfr htt LFR LTT hD FTT FFF FS FG FK SF HB5b HB5 HM HG HBX HB6 HT HBT HF HBF HB9 BX9 BXA HWA HWB BXB HZ9 HLH HGL HG5 HSOL HPS HPL hBT6 HC0 HC1 HC2 HC3 HC4 HC5 HD0 HRS7 HH6 HX0 HBC BXC BXD HWD HWE BXE
    clear hbk HRR HBK
    generalize we = wz at *
  all_goals
    have GQ := Aside0.mk DEQ.out.2.1
    have S0 : Aside0 (Sv D wz (.slice none 0 0) (fillL (alI must) 0 ss.length 0) (fillL (alI must) 0 ss.length 0) (fillL true false ss.length 0) (upTo 0) ∧ SvF D wz wz) := ⟨by rw [fillL_zero, fillL_zero]; exact ⟨HSV.out, SvF.refl _ _⟩⟩
    clear HSV
    go_loopw [51] (fun v51 wr => ∃ (j : Nat) (vQ : Value), j ≤ ss.length ∧ v51 = .int .i64 (j : Int) ∧ Aside0 (Sv D wr vQ (fillL (alI must) 0 ss.length j) (fillL (alI must) 0 ss.length j) (fillL true false ss.length j) (upTo j) ∧ SvF D wz wr)) (fun v51 _ => ss.length - (intOf v51).toNat)
    case atStart => exact ⟨0, _, Nat.zero_le _, rfl, S0⟩
    case round =>
      clear S0
      obtain ⟨j, vQ, hj, rfl, S1⟩ := hrel
      by_cases hlt : j < ss.length
      · obtain ⟨c4, c8, c9, c10, c11, _⟩ := CEL.out _ _ _ _ _ _ S1.out.1
        obtain ⟨gI, cI', eI, _⟩ := Kd.R_form S1.out.1.ri (by have := S1.out.1.li; rw [DEQ.out.2.2.1] at this; omega)
        obtain ⟨gO, cO', eO, _⟩ := Kd.R_form S1.out.1.ro (by have := S1.out.1.lo_; rw [DEQ.out.2.2.1] at this; omega)
        have aI : AI = some ⟨gI, 0, none⟩ := by have h := DEQ.out.2.2.2.2.1.symm.trans eI; injection h
        have aO : AO = some ⟨gO, 0, none⟩ := by have h := DEQ.out.2.2.2.2.2.1.symm.trans eO; injection h
        clear eI eO
        subst aI aO
        have EI : Aside0 (D.vI = .slice (some ⟨gI, 0, none⟩) D.n cI) := ⟨by rw [DEQ.out.2.2.1]; exact DEQ.out.2.2.2.2.1⟩
        have EO : Aside0 (D.vO = .slice (some ⟨gO, 0, none⟩) D.n cO) := ⟨by rw [DEQ.out.2.2.1]; exact DEQ.out.2.2.2.2.2.1⟩
        have E4 := Aside0.mk c4
        have E8 := Aside0.mk c8
        have E9 := Aside0.mk c9
        have pj0 := eq_true (show (0 : Int) ≤ (j : Int) by omega)
        have pj1 := eq_true (show (j : Int) < (ss.length : Int) by omega)
        clear c4 c8 c9 c10 c11
        go_wp2
        refine start_ (n := 18) (S := fun w' => Below wr.heap.size wr w') (ds := [15, 17]) #[false, false, false, false, false, false, false, false, false, false, false, false, false, false, false, false, false, false] (by kernel_rfl) rfl rfl (below_drew (Below.refl _ _)) (fun hHeld => ?_)
        refine with_tab solT11 (fun HT_ => ?_)
        refine pure_ (i := 0) (N := some 54) (v := ?_) (a' := ?_) #[true, false, false, false, false, false, false, false, false, false, false, false, false, false, false, false, false, false] rfl rfl (any_of HT_.out (by kernel_rfl)) (fun _ _ _ h => h) (Or.inl ⟨by rfl, ?_⟩) ?_ ?_
        rotate_left
        · intro w'
          go_simp
          with_reducible rfl
        rotate_left
        · (try simp only [Act.put, sT_, sZ_, sS_, i64_w, i32_w, u8q_]); rfl
        refine pure_ (i := 1) (N := some 55) (v := ?_) (a' := ?_) #[true, true, false, false, false, false, false, false, false, false, false, false, false, false, false, false, false, false] rfl rfl (any_of HT_.out (by kernel_rfl)) (fun _ _ _ h => h) (Or.inl ⟨by rfl, ?_⟩) ?_ ?_
        rotate_left
        · intro w'
          go_simp
          with_reducible rfl
        rotate_left
        · (try simp only [Act.put, sT_, sZ_, sS_, i64_w, i32_w, u8q_]); rfl
        refine pure_ (i := 2) (N := some 56) (v := ?_) (a' := ?_) #[true, true, true, false, false, false, false, false, false, false, false, false, false, false, false, false, false, false] rfl rfl (any_of HT_.out (by kernel_rfl)) (fun _ _ _ h => h) (Or.inl ⟨by rfl, ?_⟩) ?_ ?_
        rotate_left
        · intro w'
          go_simp
          with_reducible rfl
        rotate_left
        · (try simp only [Act.put, sT_, sZ_, sS_, i64_w, i32_w, u8q_]); rfl
        refine take_ (i := 3) (N := some 57) (v := ?_) (a' := ?_) #[true, true, true, true, false, false, false, false, false, false, false, false, false, false, false, false, false, false] rfl rfl (take_of HT_.out (by kernel_rfl)) (fun _ _ _ h => h) (Or.inl ⟨by rfl, ?_⟩) hHeld ?_ ?_
        rotate_left
        · intro w' hS'
          have hy0 := pw_cell_below hS' E8.out
          go_simp
          with_reducible rfl
        rotate_left
        · (try simp only [Act.put, sT_, sZ_, sS_, i64_w, i32_w, u8q_]); rfl
        refine pure_ (i := 4) (N := some 58) (v := ?_) (a' := ?_) #[true, true, true, true, true, false, false, false, false, false, false, false, false, false, false, false, false, false] rfl rfl (any_of HT_.out (by kernel_rfl)) (fun _ _ _ h => h) (Or.inl ⟨by rfl, ?_⟩) ?_ ?_
        rotate_left
        · intro w'
          go_simp
          with_reducible rfl
        rotate_left
        · (try simp only [Act.put, sT_, sZ_, sS_, i64_w, i32_w, u8q_]); rfl
        refine pure_ (i := 5) (N := some 59) (v := ?_) (a' := ?_) #[true, true, true, true, true, true, false, false, false, false, false, false, false, false, false, false, false, false] rfl rfl (any_of HT_.out (by kernel_rfl)) (fun _ _ _ h => h) (Or.inl ⟨by rfl, ?_⟩) ?_ ?_
        rotate_left
        · intro w'
          go_simp
          with_reducible rfl
        rotate_left
        · (try simp only [Act.put, sT_, sZ_, sS_, i64_w, i32_w, u8q_]); rfl
        refine pure_ (i := 6) (N := some 60) (v := ?_) (a' := ?_) #[true, true, true, true, true, true, true, false, false, false, false, false, false, false, false, false, false, false] rfl rfl (any_of HT_.out (by kernel_rfl)) (fun _ _ _ h => h) (Or.inl ⟨by rfl, ?_⟩) ?_ ?_
        rotate_left
        · intro w'
          go_simp
          with_reducible rfl
        rotate_left
        · (try simp only [Act.put, sT_, sZ_, sS_, i64_w, i32_w, u8q_]); rfl
        refine pure_ (i := 7) (N := some 61) (v := ?_) (a' := ?_) #[true, true, true, true, true, true, true, true, false, false, false, false, false, false, false, false, false, false] rfl rfl (any_of HT_.out (by kernel_rfl)) (fun _ _ _ h => h) (Or.inl ⟨by rfl, ?_⟩) ?_ ?_
        rotate_left
        · intro w'
          go_simp
          with_reducible rfl
        rotate_left
        · (try simp only [Act.put, sT_, sZ_, sS_, i64_w, i32_w, u8q_]); rfl
        refine take_ (i := 8) (N := some 62) (v := ?_) (a' := ?_) #[true, true, true, true, true, true, true, true, true, false, false, false, false, false, false, false, false, false] rfl rfl (take_of HT_.out (by kernel_rfl)) (fun _ _ _ h => h) (Or.inl ⟨by rfl, ?_⟩) hHeld ?_ ?_
        rotate_left
        · intro w' hS'
          have hy0 := pw_cell_below hS' E9.out
          go_simp
          with_reducible rfl
        rotate_left
        · (try simp only [Act.put, sT_, sZ_, sS_, i64_w, i32_w, u8q_]); rfl
        refine pure_ (i := 9) (N := some 63) (v := ?_) (a' := ?_) #[true, true, true, true, true, true, true, true, true, true, false, false, false, false, false, false, false, false] rfl rfl (any_of HT_.out (by kernel_rfl)) (fun _ _ _ h => h) (Or.inl ⟨by rfl, ?_⟩) ?_ ?_
        rotate_left
        · intro w'
          go_simp
          with_reducible rfl
        rotate_left
        · (try simp only [Act.put, sT_, sZ_, sS_, i64_w, i32_w, u8q_]); rfl
        refine pure_ (i := 10) (N := some 64) (v := ?_) (a' := ?_) #[true, true, true, true, true, true, true, true, true, true, true, false, false, false, false, false, false, false] rfl rfl (any_of HT_.out (by kernel_rfl)) (fun _ _ _ h => h) (Or.inl ⟨by rfl, ?_⟩) ?_ ?_
        rotate_left
        · intro w'
          go_simp
          with_reducible rfl
        rotate_left
        · (try simp only [Act.put, sT_, sZ_, sS_, i64_w, i32_w, u8q_]); rfl
        refine pure_ (i := 12) (N := some 66) (v := ?_) (a' := ?_) #[true, true, true, true, true, true, true, true, true, true, true, false, true, false, false, false, false, false] rfl rfl (any_of HT_.out (by kernel_rfl)) (fun _ _ _ h => h) (Or.inl ⟨by rfl, ?_⟩) ?_ ?_
        rotate_left
        · intro w'
          go_simp
          with_reducible rfl
        rotate_left
        · (try simp only [Act.put, sT_, sZ_, sS_, i64_w, i32_w, u8q_]); rfl
        refine one_ (i := 11) (N := some 65) #[true, true, true, true, true, true, true, true, true, true, true, true, true, false, false, false, false, false] rfl rfl (one_of HT_.out (by kernel_rfl)) (by decide) (fun K hK => ?_)
        refine call_ 15 #[.pointer (some ⟨g, 0, none⟩)] (by rfl) rfl ?hr ?_
        case hr => go_simp; try rfl
        refine (all_any _ g must (pw_cell_below hHeld E4.out)).mono ?_
        rintro e w2 ⟨rfl, hd⟩
        have hb2 := below_step hHeld hd.below
        refine ⟨_, rfl, ?_⟩
        refine hK.out _ _ (hb2) (fun hHeld => ?_)
        clear hK K
        refine norm_ (a' := ?_) ?_ ?_
        rotate_left
        · show Act.put _ (some 65) _ = _
          simp only [Act.put, sT_, sZ_, sS_, i64_w, i32_w, u8q_]
          rfl
        clear hb2 hd
        refine one_ (i := 13) (N := some 67) #[true, true, true, true, true, true, true, true, true, true, true, true, true, true, false, false, false, false] rfl rfl (one_of HT_.out (by kernel_rfl)) (by decide) (fun K hK => ?_)
        refine call_ 15 #[.pointer (some ⟨g, 0, none⟩)] (by rfl) rfl ?hr ?_
        case hr => go_simp; try rfl
        refine (all_any _ g must (pw_cell_below hHeld E4.out)).mono ?_
        rintro e w3 ⟨rfl, hd⟩
        have hb3 := below_step hHeld hd.below
        refine ⟨_, rfl, ?_⟩
        refine hK.out _ _ (hb3) (fun hHeld => ?_)
        clear hK K
        refine norm_ (a' := ?_) ?_ ?_
        rotate_left
        · show Act.put _ (some 67) _ = _
          simp only [Act.put, sT_, sZ_, sS_, i64_w, i32_w, u8q_]
          rfl
        clear hb3 hd
        have S3 := Aside0.mk (And.intro (S1.out.1.below hHeld).1 (S1.out.2.trans' (S1.out.1.below hHeld).2))
        refine pure_ (i := 14) (N := some 68) (v := ?_) (a' := ?_) #[true, true, true, true, true, true, true, true, true, true, true, true, true, true, true, false, false, false] rfl rfl (any_of HT_.out (by kernel_rfl)) (fun _ _ _ h => h) (Or.inl ⟨by rfl, ?_⟩) ?_ ?_
        rotate_left
        · intro w'
          go_simp
          with_reducible rfl
        rotate_left
        · (try simp only [Act.put, sT_, sZ_, sS_, i64_w, i32_w, u8q_]); rfl
        refine last_ (i := 15) (N := none) #[true, true, true, true, true, true, true, true, true, true, true, true, true, true, true, true, false, false] rfl rfl (one_of HT_.out (by kernel_rfl)) (by decide) (fun K hK => ?_)
        obtain ⟨hx0, hf0⟩ := Kd.R_celln 0 (EI.out ▸ S3.out.1.ri) (j : Int) (by omega) (by rw [DEQ.out.2.2.1]; omega)
        rw [Int.toNat_natCast] at hx0 hf0
        refine skip_ (w1 := (w3.setCell ⟨gI, j, none⟩ (.int .u64 (alI must)))) (by rfl) rfl ?hr ?_
        case hr => go_simp; try rfl
        clear hx0 hf0
        have S4 : Aside0 (Sv D (w3.setCell ⟨gI, j, none⟩ (.int .u64 (alI must))) vQ (fillL (alI must) 0 ss.length (j + 1)) (fillL (alI must) 0 ss.length j) (fillL true false ss.length j) (upTo j) ∧ SvF D wz (w3.setCell ⟨gI, j, none⟩ (.int .u64 (alI must)))) := ⟨by have h := S3.out.1.setI EI.out (j : Int) (alI must); rw [Int.toNat_natCast, fillL_set _ _ _ _ hlt] at h; exact ⟨h.1, S3.out.2.trans' h.2⟩⟩
        generalize w3.setCell _ _ = w4 at S4 ⊢
        refine hK.out _ _ ?_
        clear hK K
        refine norm_ (a' := ?_) ?_ ?_
        rotate_left
        · rfl
        refine pure_ (i := 16) (N := some 69) (v := ?_) (a' := ?_) #[true, true, true, true, true, true, true, true, true, true, true, true, true, true, true, true, true, false] rfl rfl (any_of HT_.out (by kernel_rfl)) (fun _ _ _ h => h) (Or.inl ⟨by rfl, ?_⟩) ?_ ?_
        rotate_left
        · intro w'
          go_simp
          with_reducible rfl
        rotate_left
        · (try simp only [Act.put, sT_, sZ_, sS_, i64_w, i32_w, u8q_]); rfl
        refine last_ (i := 17) (N := none) #[true, true, true, true, true, true, true, true, true, true, true, true, true, true, true, true, true, true] rfl rfl (one_of HT_.out (by kernel_rfl)) (by decide) (fun K hK => ?_)
        obtain ⟨hx0, hf0⟩ := Kd.R_celln 0 (EO.out ▸ S4.out.1.ro) (j : Int) (by omega) (by rw [DEQ.out.2.2.1]; omega)
        rw [Int.toNat_natCast] at hx0 hf0
        refine skip_ (w1 := (w4.setCell ⟨gO, j, none⟩ (.int .u64 (alI must)))) (by rfl) rfl ?hr ?_
        case hr => go_simp; try rfl
        clear hx0 hf0
        have S5 : Aside0 (Sv D (w4.setCell ⟨gO, j, none⟩ (.int .u64 (alI must))) vQ (fillL (alI must) 0 ss.length (j + 1)) (fillL (alI must) 0 ss.length (j + 1)) (fillL true false ss.length j) (upTo j) ∧ SvF D wz (w4.setCell ⟨gO, j, none⟩ (.int .u64 (alI must)))) := ⟨by have h := S4.out.1.setO EO.out (j : Int) (alI must); rw [Int.toNat_natCast, fillL_set _ _ _ _ hlt] at h; exact ⟨h.1, S4.out.2.trans' h.2⟩⟩
        generalize w4.setCell _ _ = w5' at S5 ⊢
        clear S3 S4 hHeld
        refine hK.out _ _ ?_
        clear hK K
        refine norm_ (a' := ?_) ?_ ?_
        rotate_left
        · rfl
        refine done_ (done_of HT_.out (by kernel_rfl)) ?_
        have HUP := Aside0.mk (show (upTo j).length ≤ 1000000 by unfold upTo; rw [List.length_map, List.length_range]; omega)
        try go_wp2_with (go_at_call 16; refine (PUSH.out _ _ _ _ _ _ S5.out.1 (j : Int) (by omega) (by omega) HUP.out).mono ?_; rintro e w6' ⟨rfl, vq1, hs, hf⟩; have S6 : Aside0 (Sv D w6' vq1 (fillL (alI must) 0 ss.length (j + 1)) (fillL (alI must) 0 ss.length (j + 1)) (fillL true false ss.length (j + 1)) (upTo (j + 1)) ∧ SvF D wz w6') := ⟨by rw [pushI_fill _ _ hlt] at hs; exact ⟨hs, S5.out.2.trans' hf⟩⟩; clear hs hf S5)
        go_roundw
        case rel => exact ⟨j + 1, _, by omega, by go_num, S6⟩
        case measure => simp [intOf]; omega
      · obtain rfl : j = ss.length := by omega
        have S2 : Aside0 (Sv D wr vQ (List.replicate ss.length (alI must)) (List.replicate ss.length (alI must)) (List.replicate ss.length true) (upTo ss.length) ∧ SvF D wz wr) := ⟨by have := S1.out; rwa [fillL_full, fillL_full] at this⟩
        clear S1
        go_wp2
        go_loopg [7] kk (fun kq v7 w' => ∃ (vQ : Value) (ins outs : List Int) (ws : List Bool) (q : List Int), Aside0 (Sv D w' vQ ins outs ws q ∧ SvF D wz w') ∧ Aside0 (solveI k0 ss fr tt gs ks st must bk kq ins outs ws q = some res) ∧ Aside0 (kq ≤ kk))
        case atStart => exact ⟨_, _, _, _, _, S2, HSL, ⟨Nat.le_refl _⟩⟩
        case round =>
          clear S2 HSL
          obtain ⟨vQ, ins, outs, ws, q, S1, HS, HK1⟩ := hrel
          cases gk with
          | zero => exact absurd HS.out (by simp [solveI])
          | succ k1 =>
            obtain ⟨c4, c8, c9, c10, c11, hf10⟩ := CEL.out _ _ _ _ _ _ S1.out.1
            obtain ⟨Aq, cq, eQ, _⟩ := Kd.Q_slice S1.out.1.rq
            subst eQ
            cases q with
            | nil =>
              obtain rfl : (ins, outs) = res := Option.some.inj HS.out
              have hbk : wr.cell? ⟨w.heap.size, 5, none⟩ = some (.bool bk) := (S1.out.2.below.cell (p := ⟨w.heap.size, 5, none⟩) (by rw [DEQ.out.1]; exact HWW.out)).trans HBK'.out
              have HRB' := HRB.out
              have HRI : Aside0 (Kd.R (Kd.int .u64) 24 wr w.heap.size (fun k => some k ≠ (Value.slice AO ss.length cO).ownBlock) (.slice AI ss.length cI) ins) := ⟨by
                have h := Kd.R_lower (base' := w.heap.size) (Kd.R_mono (ok' := fun k => some k ≠ D.vO.ownBlock) S1.out.1.ri (fun k hk e => S1.out.1.nIO k hk e.symm)) (by rw [DEQ.out.1]; exact Nat.le_of_lt HWW.out)
                rw [DEQ.out.2.2.2.2.1, DEQ.out.2.2.2.2.2.1] at h
                exact h⟩
              have HRO : Aside0 (Kd.R (Kd.int .u64) 24 wr w.heap.size (fun k => some k ≠ (Value.slice AI ss.length cI).ownBlock) (.slice AO ss.length cO) outs) := ⟨by
                have h := Kd.R_lower (base' := w.heap.size) (Kd.R_mono (ok' := fun k => some k ≠ D.vI.ownBlock) S1.out.1.ro (fun k hk e => S1.out.1.nIO k e.symm hk)) (by rw [DEQ.out.1]; exact Nat.le_of_lt HWW.out)
                rw [DEQ.out.2.2.2.2.1, DEQ.out.2.2.2.2.2.1] at h
                exact h⟩
              have HBL : Aside0 (Below w.heap.size w wr) := ⟨(below_step HB0.out HB0z.out).trans (S1.out.2.below.mono (by rw [DEQ.out.1]; exact Nat.le_of_lt HWW.out))⟩
              rw [List.length_nil] at c10
              clear HRB' S1 HS
              cases bk
              focus
                obtain rfl : rr = (ins, outs) := HRB.out
                go_wp2
                go_quiet (fail)
                try go_wp2
                go_ret2
                exact ⟨_, _, rfl, Kd.R_drewN HRI.out _, Kd.R_drewN HRO.out _, pw_below_drewN HBL.out _⟩
              focus
                obtain rfl : rr = (outs, ins) := HRB.out
                go_wp2
                go_quiet (fail)
                try go_wp2
                go_ret2
                exact ⟨_, _, rfl, Kd.R_drewN HRO.out _, Kd.R_drewN HRI.out _, pw_below_drewN HBL.out _⟩
            | cons i q =>
              obtain ⟨e, he, H⟩ := Option.bind_eq_some_iff.1 (show ((edgO k0 bk ss i).bind fun e => if okI ss.length fr tt i q = true then solveI k0 ss fr tt gs ks st must bk k1 (lookJ must st e (rd_L1 fr i) (rd_L1 tt i) gs ks i ins outs (ws.set i.toNat false, q)).1 (lookJ must st e (rd_L1 fr i) (rd_L1 tt i) gs ks i ins outs (ws.set i.toNat false, q)).2.1 (lookJ must st e (rd_L1 fr i) (rd_L1 tt i) gs ks i ins outs (ws.set i.toNat false, q)).2.2.1 (lookJ must st e (rd_L1 fr i) (rd_L1 tt i) gs ks i ins outs (ws.set i.toNat false, q)).2.2.2 else none) = some res from HS.out)
              by_cases hok : okI ss.length fr tt i q = true
              case neg => rw [if_neg hok] at H; cases H
              rw [if_pos hok] at H
              have HOK := Aside0.mk hok
              have HEG := Aside0.mk he
              have HSS := Aside0.mk H
              have hi : 0 ≤ i ∧ i < (ss.length : Int) := by
                simp only [okI, Bool.and_eq_true, decide_eq_true_eq] at hok
                exact ⟨hok.1.1.1.1, hok.1.1.1.2⟩
              have pi0 := eq_true hi.1
              have pi1 := eq_true hi.2
              have HI0 := Aside0.mk hi
              clear hok he H HS hi
              obtain ⟨gW, cW', eW, _⟩ := Kd.R_form S1.out.1.rw_ (by have := S1.out.1.lw; have h2 := DEQ.out.2.2.1; have h3 := HI0.out; omega)
              have aW : AW = some ⟨gW, 0, none⟩ := by have h := DEQ.out.2.2.2.2.2.2.symm.trans eW; injection h
              clear eW
              subst aW
              have EW : Aside0 (D.vW = .slice (some ⟨gW, 0, none⟩) D.n cW) := ⟨by rw [DEQ.out.2.2.1]; exact DEQ.out.2.2.2.2.2.2⟩
              obtain ⟨adq, eq_, hx⟩ := Kd.at_int (Kd.Q_reads' S1.out.1.rq).2.2 (0 : Int) (by omega) (by rw [List.length_cons]; omega)
              subst eq_
              have hx' : wr.cell? adq = some (.int .i64 i) := by have h : wr.cell? (adq.add 0) = some (.int .i64 i) := hx; rwa [show adq.add 0 = adq by simp [Addr.add]] at h
              have hr := Kd.Q_drop (k := 1) S1.out.1.rq (by rw [List.length_cons]; omega)
              obtain ⟨i0, hi0, _, hsz, _⟩ := info_parts info3
              have hcut := cut_from (P := Try.prog) 33 3 .i64 Try.underlying33 hi0 1 hsz (some adq) (i :: q).length cq 1 (by omega) (by rw [List.length_cons]; omega)
              obtain ⟨A1, hA1⟩ : ∃ A1, A1 = (if cq = 1 then some adq else (some adq).map (·.add (1 * 1))) := ⟨_, rfl⟩
              obtain ⟨c1, hc1⟩ : ∃ c1, c1 = cq - 1 := ⟨_, rfl⟩
              have hr' : Kd.Q (Kd.int .i64) 3 wr D.B (fun k => D.hi ≤ k) (.slice A1 q.length c1) q := by rw [hA1, hc1]; exact hr
              have hcut' : ∀ W : World, (Instr.slice 33 (.slice (some adq) (q.length + 1) cq) (some (.int .i64 1)) none none).run Try.prog W = .ok (.slice A1 q.length c1) W := by rw [hA1, hc1]; exact hcut
              rw [List.length_cons] at c10
              have S2 : Aside0 (Sv D (wr.setCell ⟨g, 10, none⟩ (.slice A1 q.length c1)) (.slice A1 q.length c1) ins outs ws q ∧ SvF D wz (wr.setCell ⟨g, 10, none⟩ (.slice A1 q.length c1))) := ⟨by
                have h := S1.out.1.setQ (w1 := wr) (row := none) (fun k h => by cases h) ⟨rfl, rfl, rfl, Nat.le_refl _, fun _ _ _ => rfl⟩ hr'
                rw [GQ.out] at h
                exact ⟨h.1, S1.out.2.trans' h.2⟩⟩
              have pq := decide_eq_true (show (0 : Int) < ((q.length : Int) + 1) by omega)
              clear hi0 hsz hx hr hr' hcut hA1 hc1 S1
              go_wp2_with (first | ((with_reducible refine gate_store (t := 33) (p := 93) rfl ?_); refine store_event (t := 33) (p := 93) (v := ?vo_q) (w1 := (wr.setCell ⟨g, 10, none⟩ (.slice A1 q.length c1))) ?hg ?ho ?hn ?hr ?_; (case ho => rfl); (case hg => rfl); (case hn => rfl); (case hr => first | (go_simp; done) | (go_simp; rfl)); intro w2 hw; rw [← hw] at S2; obtain ⟨_, _, _, _, d11, _⟩ := CEL.out _ _ _ _ _ _ S2.out.1; obtain ⟨hw0, hwf⟩ := Kd.R_celln false (EW.out ▸ S2.out.1.rw_) i HI0.out.1 (by rw [DEQ.out.2.2.1]; exact HI0.out.2); clear hw c4 c8 c9 c10 c11 hf10 hx') | ((with_reducible refine gate_store (t := 4) (p := 99) rfl ?_); refine store_event (t := 4) (p := 99) (v := ?vo_r) (w1 := (w2.setCell ⟨gW, i.toNat, none⟩ (.bool false))) ?hg ?ho ?hn ?hr ?_; (case ho => rfl); (case hg => rfl); (case hn => rfl); (case hr => first | (go_simp; done) | (go_simp; rfl)); intro w3 hw; have S3 : Aside0 (Sv D w3 (.slice A1 q.length c1) ins outs (ws.set i.toNat false) q ∧ SvF D wz w3) := ⟨by rw [hw]; exact ⟨(S2.out.1.setW EW.out i false).1, S2.out.2.trans' (S2.out.1.setW EW.out i false).2⟩⟩; clear hw hw0 hwf d11) | (go_at_call 17; refine (LOOK.out _ _ _ _ _ _ S3.out.1 S3.out.2 i e HEG.out HOK.out).mono ?_; rintro e' w4 ⟨rfl, vq1, hs, hf⟩; have S4 := Aside0.mk hs; have F4 := Aside0.mk (S3.out.2.trans' hf); clear hs hf))
              go_roundg k1
              case measure => have := HK1.out; omega
              case rel => exact ⟨_, _, _, _, _, ⟨S4.out, F4.out⟩, HSS, ⟨by have := HK1.out; omega⟩⟩
theorem edgO_mono (back : Bool) (ss : List (List Int)) (i : Int) (k : Nat) : LeO (edgO k back ss i) (edgO (k + 1) back ss i) := by
  unfold edgO
  exact LeO.ite (slices_Contains_int_int.mono _ _ k) (LeO.refl _)
theorem solveI_mono (k : Nat) (ss fr tt : List (List Int)) (gs ks : List Int) (st : Int) (m back : Bool) : ∀ kq ins outs ws q, LeO (solveI k ss fr tt gs ks st m back kq ins outs ws q) (solveI (k + 1) ss fr tt gs ks st m back (kq + 1) ins outs ws q)
  | 0, _, _, _, _ => fun r h => by cases h
  | kq + 1, ins, outs, ws, q => by
    cases q with
    | nil => exact LeO.refl _
    | cons i q => exact LeO.bind (edgO_mono back ss i k) (fun e => LeO.ite (solveI_mono k ss fr tt gs ks st m back kq _ _ _ _) (LeO.none _))
def flow_Solve.f (k : Nat) (l0_0 : List (List Int)) (l0_1 : List Int) (l0_2 : List Int) (a0_3 : Int) (a0_4 : Bool) (a0_5 : Bool) : Option (List Int × List Int) := if l0_0.length ≤ 64 then (if (l0_0.all fun l => decide (l.length ≤ 1000000)) = true then (cfg_Preds.f k l0_0).bind fun ps => if ps.length = l0_0.length then ((solveI k l0_0 (if a0_5 = true then insideI l0_0 else ps) (if a0_5 = true then ps else insideI l0_0) l0_1 l0_2 a0_3 a0_4 a0_5 k (List.replicate l0_0.length (alI a0_4)) (List.replicate l0_0.length (alI a0_4)) (List.replicate l0_0.length true) (upTo l0_0.length)).bind fun res => some (if a0_5 = true then (res.2, res.1) else res)) else none else none) else some ([], [])
theorem flow_Solve.mono : ∀ a0 a1 a2 a3 a4 a5 k, LeO (flow_Solve.f k a0 a1 a2 a3 a4 a5) (flow_Solve.f (k + 1) a0 a1 a2 a3 a4 a5) := by
  intro a0 a1 a2 a3 a4 a5 k
  unfold flow_Solve.f
  exact LeO.ite (LeO.ite (LeO.bind (cfg_Preds.mono a0 k) (fun ps => LeO.ite (LeO.bind (solveI_mono k _ _ _ _ _ _ _ _ k _ _ _ _) (fun res => LeO.refl _)) (LeO.none _))) (LeO.none _)) (LeO.refl _)
set_option maxRecDepth 100000 in
theorem solve_far (AS : Option Addr) (cS n : Nat) (v1 v2 : Value) (st : Int) (must back : Bool) (w : World) (hn : ¬ n ≤ 64) :
    Calls Try.prog 10 #[.agg #[.slice AS n cS, v1, v2, .int .u64 st, .bool must, .bool back]] w (SolP w ([], [])) := by
  have dn : decide ((64 : Int) < (n : Int)) = true := decide_eq_true (by omega)
  clear hn
  go_enter Try.func10, Try.ntmps10
  go_wp2
  go_ret2
  exact ⟨_, _, rfl, Kd.R_nil _ _ _ _ _, Kd.R_nil _ _ _ _ _, below_alloc (Below.refl _ _) _⟩
theorem flow_Solve.calls (k : Nat) (A0_0 : Option Addr) (c0_0 : Nat) (l0_0 : List (List Int)) (A0_1 : Option Addr) (c0_1 : Nat) (l0_1 : List Int) (A0_2 : Option Addr) (c0_2 : Nat) (l0_2 : List Int) (a0_3 : Int) (a0_4 : Bool) (a0_5 : Bool) (r1 : List Int) (r2 : List Int) (w : World) (hr0_0 : Kd.C (Kd.slice 3 (Kd.int .i64)) w A0_0 l0_0.length l0_0) (hc0_0 : l0_0.length ≤ c0_0) (hr0_1 : Kd.C (Kd.int .u64) w A0_1 l0_1.length l0_1) (hc0_1 : l0_1.length ≤ c0_1) (hr0_2 : Kd.C (Kd.int .u64) w A0_2 l0_2.length l0_2) (hc0_2 : l0_2.length ≤ c0_2) (h : flow_Solve.f k l0_0 l0_1 l0_2 a0_3 a0_4 a0_5 = some (r1, r2)) :
    Calls Try.prog 10 #[.agg #[.slice A0_0 l0_0.length c0_0, .slice A0_1 l0_1.length c0_1, .slice A0_2 l0_2.length c0_2, .int .u64 a0_3, .bool a0_4, .bool a0_5]] w fun e w' => ∃ v0_ v1_ : Value, e = .returned (.tuple #[v0_, v1_]) ∧ Kd.R (Kd.int .u64) 24 w' w.heap.size (fun k_ => some k_ ≠ (v1_ : Value).ownBlock) v0_ r1 ∧ Kd.R (Kd.int .u64) 24 w' w.heap.size (fun k_ => some k_ ≠ (v0_ : Value).ownBlock) v1_ r2 ∧ Below w.heap.size w w' := by
  unfold flow_Solve.f at h
  by_cases hn : l0_0.length ≤ 64
  · rw [if_pos hn] at h
    by_cases hl : (l0_0.all fun l => decide (l.length ≤ 1000000)) = true
    case neg => rw [if_neg hl] at h; cases h
    rw [if_pos hl] at h
    obtain ⟨ps, hps, h⟩ := Option.bind_eq_some_iff.1 h
    by_cases hpl : ps.length = l0_0.length
    case neg => rw [if_neg hpl] at h; cases h
    rw [if_pos hpl] at h
    obtain ⟨res, hres, h⟩ := Option.bind_eq_some_iff.1 h
    have h3 := solve_any A0_0 c0_0 l0_0 A0_1 c0_1 l0_1 A0_2 c0_2 l0_2 a0_3 a0_4 a0_5 w hr0_0 hc0_0 hr0_1 hc0_1 hr0_2 hc0_2 hn k ps hps hpl (fun j hj => by
      have h2 := List.all_eq_true.1 hl (l0_0.getD j []) (by rw [List.getD_eq_getElem?_getD, List.getElem?_eq_getElem hj]; exact List.getElem_mem hj)
      simpa using h2) k res hres
    rw [Option.some.inj h] at h3
    exact h3
  · rw [if_neg hn] at h
    cases h
    exact solve_far A0_0 c0_0 l0_0.length _ _ a0_3 a0_4 a0_5 w hn

end Go.Proofs.Ytfiemikganhgeaa.P
