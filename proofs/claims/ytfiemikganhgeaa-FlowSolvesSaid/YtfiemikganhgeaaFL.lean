import Derived.Test.YtfiemikganhgeaaFP
namespace Go.Proofs.Ytfiemikganhgeaa.Th
set_option linter.unusedVariables false
open Go Go.RowKit Go.Proofs.Ytfiemikganhgeaa.P Go.Proofs.Ytfiemikganhgeaa.Opn Go.Proofs.YtfiemikganhgeaaW.PrintWords Go.Proofs.YtfiemikganhgeaaW.PrintLast Go.Proofs.YtfiemikganhgeaaW.PrintMore
/-! What flow.Solve's walk computes is the row of places that wait. -/
def IntL (l : List Nat) : List Int := l.map (fun x : Nat => (x : Int))
def W64 (l : List Int) : Prop := ∀ x ∈ l, 0 ≤ x ∧ x < 18446744073709551616
def edB (back : Bool) (ss : List (List Int)) (i : Nat) : Bool := if back = true then decide ((ss.length : Int) ∈ ss.getD i []) else i == 0
def sysF (ss fr : List (List Int)) (gs ks : List Int) (st : Int) (m back : Bool) : Sys := ⟨m, ss.length, fun i => (fr.getD i []).map Int.toNat, edB back ss, st.toNat, fun i => (atI ks (i : Int)).toNat, fun i => (atI gs (i : Int)).toNat⟩
theorem IntL_len (l : List Nat) : (IntL l).length = l.length := List.length_map _
theorem IntL_rd (l : List Nat) (k : Nat) : rd (IntL l) (k : Int) = (fn l k : Int) := by
  rw [rd_nat]
  unfold IntL fn
  rw [List.getD_eq_getElem?_getD, List.getD_eq_getElem?_getD, List.getElem?_map]
  cases l[k]? <;> rfl
theorem IntL_set (l : List Nat) (i v : Nat) : (IntL l).set i (v : Int) = IntL (l.set i v) := by unfold IntL; rw [List.map_set]
theorem mtI_nat (m : Bool) {a b : Nat} (ha : a < U) (hb : b < U) : mtI m (a : Int) (b : Int) = (MT m a b : Int) := by
  unfold mtI MT
  split
  · exact and_nat a b ha hb
  · exact or_nat a b ha hb
theorem alI_nat (m : Bool) : alI m = (AL m : Int) := by cases m <;> rfl
theorem foldI_nat (m : Bool) (outs : List Nat) (ho : ∀ j, fn outs j < U) : ∀ (ks : List Int) (a : Nat), a < U → (∀ x ∈ ks, 0 ≤ x) → foldI m (IntL outs) (a : Int) ks = ((((ks.map Int.toNat).map (fn outs)).foldl (MT m) a : Nat) : Int)
  | [], a, _, _ => rfl
  | k :: ks, a, ha, h => by
    have hk : k = ((k.toNat : Nat) : Int) := by have := h k List.mem_cons_self; omega
    have h1 : mtI m (a : Int) (rd (IntL outs) k) = (MT m a (fn outs k.toNat) : Int) := by
      rw [hk, IntL_rd, Int.toNat_natCast]; exact mtI_nat m ha (ho _)
    show foldI m (IntL outs) (mtI m (a : Int) (rd (IntL outs) k)) ks = _
    rw [h1]
    exact foldI_nat m outs ho ks _ (MT_lt m ha (ho _)) (fun x hx => h x (List.mem_cons_of_mem _ hx))
theorem inn_nat (m e : Bool) {st : Nat} (hst : st < U) (outs : List Nat) (ho : ∀ j, fn outs j < U) (ks : List Int) (h : ∀ x ∈ ks, 0 ≤ x) :
    foldI m (IntL outs) (if e = true then mtI m (alI m) (st : Int) else alI m) ks = (inN m e st ((ks.map Int.toNat).map (fn outs)) : Int) := by
  unfold inN
  have h0 : (if e = true then mtI m (alI m) (st : Int) else alI m) = ((if e = true then MT m (AL m) st else AL m : Nat) : Int) := by
    cases e
    · simpa using alI_nat m
    · rw [if_pos rfl, if_pos rfl, alI_nat]; exact mtI_nat m (AL_lt m) hst
  rw [h0]
  refine foldI_nat m outs ho ks _ ?_ h
  cases e
  · exact AL_lt m
  · exact MT_lt m (AL_lt m) hst
theorem atI_lt {l : List Int} (h : W64 l) (i : Nat) : 0 ≤ atI l (i : Int) ∧ atI l (i : Int) < 18446744073709551616 := by
  unfold atI
  split
  · omega
  · rename_i hc
    rw [rd_nat, List.getD_eq_getElem?_getD, List.getElem?_eq_getElem (by omega)]
    exact h _ (List.getElem_mem (by omega))
theorem out_nat {gs ks : List Int} (hg : W64 gs) (hk : W64 ks) (i : Nat) {x : Nat} (hx : x < U) : outI gs ks (i : Int) (x : Int) = (trN (atI ks (i : Int)).toNat (atI gs (i : Int)).toNat x : Int) := by
  have h1 := atI_lt hk i
  have h2 := atI_lt hg i
  unfold outI
  generalize atI ks (i : Int) = a at *
  generalize atI gs (i : Int) = b at *
  have ha : a = ((a.toNat : Nat) : Int) := by omega
  have hb : b = ((b.toNat : Nat) : Int) := by omega
  have la : a.toNat < 18446744073709551616 := by omega
  have lb : b.toNat < 18446744073709551616 := by omega
  rw [ha, hb, Int.toNat_natCast, Int.toNat_natCast, andNot_nat x a.toNat hx la, or_nat _ _ (minus_lt x a.toNat hx) lb]
  rfl
theorem pushI_nat (k : Nat) (ws : List Bool) (q : List Nat) : pushI (k : Int) (ws, IntL q) = ((pushN k (ws, q)).1, IntL (pushN k (ws, q)).2) := by
  unfold pushI pushN
  simp only [Int.toNat_natCast]
  split
  · rfl
  · rw [show IntL (q ++ [k]) = IntL q ++ [(k : Int)] by unfold IntL; rw [List.map_append]; rfl]
theorem pushesI_nat : ∀ (l : List Int), (∀ x ∈ l, 0 ≤ x) → ∀ (s : WQ), pushesI l (s.1, IntL s.2) = (((l.map Int.toNat).foldl (fun s k => pushN k s) s).1, IntL ((l.map Int.toNat).foldl (fun s k => pushN k s) s).2)
  | [], _, s => rfl
  | a :: l, h, s => by
    have ha : a = ((a.toNat : Nat) : Int) := by have := h a List.mem_cons_self; omega
    show pushesI l (pushI a (s.1, IntL s.2)) = _
    rw [ha, pushI_nat a.toNat s.1 s.2, pushesI_nat l (fun x hx => h x (List.mem_cons_of_mem _ hx)) (pushN a.toNat (s.1, s.2))]
    rfl
section
variable {ss fr tt : List (List Int)} {gs ks : List Int} {st : Int} {m back : Bool}
  (hg : W64 gs) (hk : W64 ks) (hst : 0 ≤ st ∧ st < 18446744073709551616)
  (hfr : ∀ i, i < ss.length → ∀ x ∈ fr.getD i [], 0 ≤ x ∧ x < (ss.length : Int)) (htt : ∀ i, i < ss.length → ∀ x ∈ tt.getD i [], 0 ≤ x ∧ x < (ss.length : Int))
include hg hk hst hfr htt in
theorem look_nat {i : Nat} (hi : i < ss.length) {ins outs : List Nat} (ho : ∀ j, fn outs j < U) (s : WQ) :
    lookJ m st (edB back ss i) (fr.getD i []) (tt.getD i []) gs ks (i : Int) (IntL ins) (IntL outs) (s.1, IntL s.2) =
      (IntL (lookN (sysF ss fr gs ks st m back) (fun i => (tt.getD i []).map Int.toNat) i ins outs s).1, IntL (lookN (sysF ss fr gs ks st m back) (fun i => (tt.getD i []).map Int.toNat) i ins outs s).2.1,
        ((lookN (sysF ss fr gs ks st m back) (fun i => (tt.getD i []).map Int.toNat) i ins outs s).2.2.1, IntL (lookN (sysF ss fr gs ks st m back) (fun i => (tt.getD i []).map Int.toNat) i ins outs s).2.2.2)) := by
  have e0 : st = ((st.toNat : Nat) : Int) := by omega
  have hin : foldI m (IntL outs) (if edB back ss i = true then mtI m (alI m) st else alI m) (fr.getD i []) = ((sysF ss fr gs ks st m back).inn (fn outs) i : Int) := by
    have := inn_nat m (edB back ss i) (st := st.toNat) (show st.toNat < U by show _ < 18446744073709551616; omega) outs ho (fr.getD i []) (fun x hx => (hfr i hi x hx).1)
    rw [← e0] at this
    exact this
  have hlt : (sysF ss fr gs ks st m back).inn (fn outs) i < U := inN_lt _ _ (show st.toNat < U by show _ < 18446744073709551616; omega) (fun v hv => by
    obtain ⟨k, _, rfl⟩ := List.mem_map.1 hv
    exact ho k)
  unfold lookJ lookN
  rw [hin, out_nat hg hk i hlt]
  have hout : trN (atI ks (i : Int)).toNat (atI gs (i : Int)).toNat ((sysF ss fr gs ks st m back).inn (fn outs) i) = (sysF ss fr gs ks st m back).out (fn outs) i := rfl
  rw [hout, IntL_rd, Int.toNat_natCast]
  by_cases hc : (sysF ss fr gs ks st m back).out (fn outs) i = fn outs i
  · rw [if_pos (by rw [hc]), if_pos hc, IntL_set]
  · rw [if_neg (by intro c; exact hc (by omega)), if_neg hc, IntL_set, IntL_set, pushesI_nat _ (fun x hx => (htt i hi x hx).1)]
variable (hn : ss.length ≤ 64) (hlt : ∀ i, i < ss.length → (tt.getD i []).length ≤ 900000) (hear : ∀ i j, i < ss.length → j < ss.length → i ∈ (fr.getD j []).map Int.toNat → j ∈ (tt.getD i []).map Int.toNat)
include hg hst hfr in
theorem sysF_ok : (sysF ss fr gs ks st m back).Ok := ⟨fun i hi k hk => by
    obtain ⟨x, hx, rfl⟩ := List.mem_map.1 hk
    have := hfr i hi x hx
    show x.toNat < ss.length
    omega, by show st.toNat < 18446744073709551616; omega, fun i => by have := atI_lt hg i; show (atI gs (i : Int)).toNat < 18446744073709551616; omega⟩
theorem fn_lt {S : Sys} {outs : List Nat} (hl : outs.length = S.n) (h : Bd S (fn outs)) (j : Nat) : fn outs j < U := by
  by_cases hj : j < S.n
  · exact h j hj
  · unfold fn
    rw [List.getD_eq_getElem?_getD, List.getElem?_eq_none (by omega)]
    decide
include hg hk hst hfr htt hn hlt hear in
theorem solve_link (k0 : Nat) (he : ∀ i, i < ss.length → edgO k0 back ss (i : Int) = some (edB back ss i)) : ∀ (kq : Nat) (ins outs : List Nat) (s : WQ) (a b : List Nat), Inv (sysF ss fr gs ks st m back) ins outs s →
    solveN (sysF ss fr gs ks st m back) (fun i => (tt.getD i []).map Int.toNat) kq ins outs s.1 s.2 = some (a, b) → solveI k0 ss fr tt gs ks st m back kq (IntL ins) (IntL outs) s.1 (IntL s.2) = some (IntL a, IntL b)
  | 0, _, _, _, _, _, _, h => by cases h
  | kq + 1, ins, outs, (ws, []), a, b, _, h => by
    obtain ⟨rfl, rfl⟩ := Prod.mk.inj (Option.some.inj (show some (ins, outs) = some (a, b) from h))
    rfl
  | kq + 1, ins, outs, (ws, i :: q), a, b, hI, h => by
    have hi : i < ss.length := hI.wq.lt i List.mem_cons_self
    have hnx := (look_inv (sysF_ok hg hst hfr) (tos := fun i => (tt.getD i []).map Int.toNat) (fun i hi k hk => by
      obtain ⟨x, hx, rfl⟩ := List.mem_map.1 hk
      have := htt i hi x hx
      show x.toNat < ss.length
      omega) hear hI).1
    have ih := solve_link k0 he kq _ _ _ a b hnx h
    have hlk := look_nat (m := m) (back := back) hg hk hst hfr htt hi (ins := ins) (fn_lt hI.lo hI.bd) (ws.set i false, q)
    have hq : (i :: q).length ≤ ss.length := nodup_le _ hI.wq.nd hI.wq.lt
    have hok : okI ss.length fr tt (i : Int) (IntL q) = true := by
      unfold okI
      simp only [Bool.and_eq_true, decide_eq_true_eq]
      have hr : ∀ l : List (List Int), rd_L1 l (i : Int) = l.getD i [] := fun l => by unfold rd_L1; rw [Int.toNat_natCast]
      rw [hr, hr, IntL_len]
      refine ⟨⟨⟨⟨by omega, by omega⟩, ?_⟩, ?_⟩, ?_⟩
      · exact List.all_eq_true.2 (fun x hx => by have := hfr i hi x hx; simp; exact this)
      · exact List.all_eq_true.2 (fun x hx => by have := htt i hi x hx; simp; exact this)
      · have := hlt i hi
        rw [List.length_cons] at hq
        omega
    have hr : ∀ l : List (List Int), rd_L1 l (i : Int) = l.getD i [] := fun l => by unfold rd_L1; rw [Int.toNat_natCast]
    show ((edgO k0 back ss (i : Int)).bind fun e => if okI ss.length fr tt (i : Int) (IntL q) = true then solveI k0 ss fr tt gs ks st m back kq (lookJ m st e (rd_L1 fr (i : Int)) (rd_L1 tt (i : Int)) gs ks (i : Int) (IntL ins) (IntL outs) (ws.set (i : Int).toNat false, IntL q)).1 (lookJ m st e (rd_L1 fr (i : Int)) (rd_L1 tt (i : Int)) gs ks (i : Int) (IntL ins) (IntL outs) (ws.set (i : Int).toNat false, IntL q)).2.1 (lookJ m st e (rd_L1 fr (i : Int)) (rd_L1 tt (i : Int)) gs ks (i : Int) (IntL ins) (IntL outs) (ws.set (i : Int).toNat false, IntL q)).2.2.1 (lookJ m st e (rd_L1 fr (i : Int)) (rd_L1 tt (i : Int)) gs ks (i : Int) (IntL ins) (IntL outs) (ws.set (i : Int).toNat false, IntL q)).2.2.2 else none) = _
    rw [he i hi, Option.bind_some, if_pos hok, hr, hr, Int.toNat_natCast, hlk]
    exact ih
end
end Go.Proofs.Ytfiemikganhgeaa.Th
