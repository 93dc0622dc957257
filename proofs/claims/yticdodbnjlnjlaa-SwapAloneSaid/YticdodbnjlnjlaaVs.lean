import Derived.StillTailTactics
import Derived.Test.YticdodbnjlnjlaaVq
import Derived.Test.YticdodbnjlnjlaaPx2
import Derived.Test.YticdodbnjlnjlaaPx6
import Derived.Test.YticdodbnjlnjlaaPx7
namespace Go.Proofs.Yticdodbnjlnjlaa.P
open Go.RowKit Go.Proofs.YticdodbnjlnjlaaW.PrintWords Go.Proofs.YticdodbnjlnjlaaW.PrintLast Go.Proofs.YticdodbnjlnjlaaW.PrintMore
attribute [local go_sem] max2_int min2_int max_two min_two max_three min_three max_four min_four
attribute [local irreducible] Calls
set_option linter.unusedVariables false
set_option linter.unusedSimpArgs false
abbrev PP (vC vT : Value) : PV := ⟨2, 1, 1, vC, 1, 1, vT⟩
def lsA : Nat → List Int := ls0 (PP (.slice none 0 0) (.slice none 0 0)) 1
abbrev zP : Array Value := #[.int .i64 0, .int .i64 0, .int .i64 0, .slice none 0 0, .int .i64 0, .int .i64 0, .slice none 0 0]
theorem ls0_A (vC vT : Value) : ls0 (PP vC vT) 1 = lsA := rfl
def atA (c : List S33) (m : Nat) : (Nat → List Int) × Int := itS c (lsA, 0) m
structure endsA (c : List S33) (m : Nat) : Prop where
  le : m ≤ 200
  can : ∀ i, i < m → canF c [1] (atA c i).1 (atA c i).2 = true
  stop : m = 200 ∨ canF c [1] (atA c m).1 (atA c m).2 = false
def stA (c : List S33) (m : Nat) : Int := statusF c [1] (atA c m).1 (atA c m).2
/-- What is asked of a code and of what it becomes. -/
structure ALO (c d : List S33) : Prop where
  s1 : ∀ vC vT, SOK (PP vC vT) c [1]
  g1 : GS 1 c [1] lsA 8
  s2 : ∀ vC vT, SOK (PP vC vT) d [1]
  g2 : GS 1 d [1] lsA 8
  same : ∀ m n, endsA c m → endsA d n → stA c m ≠ 0 → m = n ∧ stA d n = stA c m ∧ (atA d n).1 11 = (atA c m).1 11
theorem add_z (a : Addr) : a.add 0 = a := by unfold Addr.add; split <;> simp_all
theorem C_single {α : Type} {e : Nat} {dd : Kd α} {w : World} {ad : Addr} {A0 : Option Addr} {l : List α} {c0 : Nat} (h : w.cell? ad = some (.slice A0 l.length c0)) (hc : l.length ≤ c0) (hr : Kd.C dd w A0 l.length l) : Kd.C (Kd.slice e dd) w (some ad) [l].length [l] := by
  refine ⟨rfl, by simp, fun _ => ⟨ad, rfl, fun j p hj => ?_⟩⟩
  have h0 : j = 0 := by have := (List.getElem?_eq_some_iff.1 hj).1; simpa using this
  subst h0
  obtain rfl : l = p := by simpa using hj
  refine ⟨[.slice A0 l.length c0], rfl, ⟨A0, c0, rfl, hc, hr⟩, fun i u hu => ?_⟩
  have h1 : i = 0 := by have := (List.getElem?_eq_some_iff.1 hu).1; simpa using this
  subst h1
  obtain rfl : Value.slice A0 l.length c0 = u := by simpa using hu
  rw [show 0 * (Kd.slice e dd).sz + 0 = 0 from rfl, add_z]; exact h
theorem thr_C {w : World} {A : Option Addr} {c : List S33} (h : Kd.C (Kd.slice 33 k33) w A [c].length [c]) : ∃ ad Ac cc, A = some ad ∧ w.cell? ad = some (.slice Ac c.length cc) ∧ c.length ≤ cc ∧ Kd.C k33 w Ac c.length c := by
  obtain ⟨ad, A0, c0, e, h1, h2, h3⟩ := at_L4 h 0 (by omega) (by simp)
  exact ⟨ad, A0, c0, e, by rw [← add_z ad]; exact h1, h2, h3⟩
theorem PF_of {w : World} {vC : Value} {A : Option Addr} {cT : Nat} {c : List S33} (h1 : IS w vC [1]) (h2 : Kd.C (Kd.slice 33 k33) w A [c].length [c]) (h3 : 1 ≤ cT) : PF w (PP vC (.slice A 1 cT)) c [1] := by
  obtain ⟨ad, Ac, cc, rfl, h4, h5, h6⟩ := thr_C h2
  exact ⟨h1, ad, cT, Ac, cc, rfl, h3, h4, h5, h6⟩
theorem same_l0 (l : List Int) : ∀ (d i : Nat), i + d = l.length → l.length ≤ 9223372036854775807 → ∃ k, interlockref01_Same.l0 k l l (i : Int) = some true
  | 0, i, h, _ => ⟨1, by simp only [interlockref01_Same.l0]; rw [if_neg (by omega)]⟩
  | d + 1, i, h, hl => by
    obtain ⟨k, hk⟩ := same_l0 l d (i + 1) (by omega) hl
    refine ⟨k + 1, ?_⟩
    have e1 : wrap64 ((i : Int) + 1) = ((i + 1 : Nat) : Int) := by unfold wrap64; omega
    simp only [interlockref01_Same.l0]
    rw [if_pos (by omega), if_pos (by omega), if_pos (by omega), if_pos trivial, e1]
    exact hk
theorem same_f (l : List Int) (hl : l.length ≤ 9223372036854775807) : ∃ k, interlockref01_Same.f k l l = some true := by
  obtain ⟨k, h⟩ := same_l0 l l.length 0 (by omega) hl
  exact ⟨k, by unfold interlockref01_Same.f; rw [if_pos rfl]; exact h⟩
structure RND (c : List S33) (m : Nat) (vO vP vT : Value) (W : World) : Prop where
  e : endsA c m
  o : IS W vO ((atA c m).1 11)
  p : IS W vP (List.replicate m 0)
  t : ∃ A cc evs, vT = .slice A m cc ∧ m ≤ cc ∧ Kd.C k75 W A m evs ∧ ∀ e ∈ evs, e.f0 = 0
theorem RND.below {c : List S33} {m : Nat} {vO vP vT : Value} {w W : World} (h : RND c m vO vP vT w) (hb : Below w.heap.size w W) : RND c m vO vP vT W := by
  obtain ⟨A, cc, evs, h1, h2, h3, h4⟩ := h.t
  exact ⟨h.e, h.o.below hb, h.p.below hb, A, cc, evs, h1, h2, Kd.C_below h3 hb, h4⟩
theorem RND.one {c : List S33} {m : Nat} {vO vP vT : Value} {w : World} (h : RND c m vO vP vT w) (s : Int) : (rCells vO s vP vT).all (·.oneCell') = true := by
  obtain ⟨A, cc, evs, rfl, _⟩ := h.t
  have hi : ∀ k n, (Value.int k n).oneCell' = true := fun _ _ => rfl
  have hs : ∀ A n k, (Value.slice A n k).oneCell' = true := fun _ _ _ => rfl
  simp [rCells, hi, hs, h.o.one, h.p.one]
theorem round_R (vC vT : Value) (c : List S33) (w : World) (hP : PF w (PP vC vT) c [1]) (hS : SOK (PP vC vT) c [1]) (hG : GS 1 c [1] lsA 8) :
    Calls Try.prog 19 #[.agg (pCells (PP vC vT)), .int .i64 200] w (fun e w' => ∃ m vO vP vT, e = .returned (.tuple #[.agg (rCells vO (stA c m) vP vT), .int .i64 0]) ∧ RND c m vO vP vT w' ∧ Below w.heap.size w w') := by
  refine (round_any (PP vC vT) c [1] 1 w hP rfl hS.lim (fun w' hb => sound_any (PP vC vT) c [1] w' (hP.below hb) hS) hG).mono ?_
  rintro e w' ⟨m, vO, vP, vT, evs, h1, h2, h3, h4, h5, h6, ⟨A, cc, h7, h8, h9⟩, h10, h11⟩
  exact ⟨m, vO, vP, vT, h4, ⟨⟨h1, h2, h3⟩, h5, h6, A, cc, evs, h7, h8, h9, h10⟩, h11⟩
theorem field30 (a b : Value) (w : World) : (Instr.field 30 (.agg #[a, b]) 0).run Try.prog w = .ok a w := by
  kernel_rfl
theorem exec_field30 {o : Oper} {ev : Operand → Value} {w : World} (x : Operand) (a b : Value) (ho : o.op = .field 30 x 0) (hx : ev x = .agg #[a, b]) : (execOp ev o).run Try.prog w = .ok (.value a) w := by
  unfold execOp
  simp only [ho, hx, Sem.run_bind, Sem.run_pure, field30, Result.andThen_ok]
attribute [local go_sem] field30
set_option maxHeartbeats 16000000 in
set_option maxRecDepth 100000 in
theorem alone_any (k : Nat) (A0 : Option Addr) (c0 : Nat) (l : List Int) (c d : List S33) (fr : List Int) (w : World) (hr0 : Kd.C (Kd.int .u8) w A0 l.length l) (hc0 : l.length ≤ c0) (hM : interlocklaw02_Make.f k [l] = some (2, 1, 1, [1], 1, 1, [c])) (hC : swap_Code.f k c = some (d, fr)) (hK : interlocklaw19_known.f k = some true) (hA : ALO c d) :
    Calls Try.prog 7 #[.slice A0 l.length c0] w (fun e w' => e = .returned (.bool true) ∧ Below w.heap.size w w') := by
  have hu30 := Try.underlying30
  have HR0 := am hr0
  have HC0 := am hc0
  have HM := am hM
  have HC := am hC
  have HK := am hK
  have HA := am hA
  clear hr0 hc0 hM hC hK hA
  go_enter Try.func7, Try.ntmps7
  go_upto_region 8 with (first | (go_at_call 8; refine (interlocklaw02_Make.calls k (some ⟨w.heap.size, 0, none⟩) 1 [l] 2 1 1 [1] 1 1 [c] _ (C_single (blk_cell (blk_new _ _) 0) HC0.out (Kd.C_below HR0.out (below_alloc (Below.refl _ _) _))) (Nat.le_refl _) HM.out).mono ?_; rintro e Wm ⟨v3, v6, rfl, hv3, hv6, hb⟩; have HB := am (below_step (below_alloc (Below.refl w.heap.size w) _) hb); have HB2 := am (Below.refl Wm.heap.size Wm); obtain ⟨A6, c6, rfl, hl6, hC6⟩ := Kd.R_reads (Kd.S_R hv6); have H1 := am (IS.of_R hv3); have H6 := am (And.intro hl6 hC6); obtain ⟨aT, Ac, cc, rfl, g1, g2, g3⟩ := thr_C hC6; have HT := am (And.intro g1 (And.intro g2 g3)); clear hv3 hv6 hl6 hC6 hb g1 g2 g3) | ((with_reducible refine gd 3 ?_); refine bx 3 (zP) 26 ?_; intro b3 qg W qx qb; have H3 := am qx; have HG3 := am (Nat.le_trans (below_size HB2.out) (Nat.le_of_eq qg.symm)); replace HB2 := am (below_step HB2.out qb); clear qg qx qb) | ((with_reducible refine gs 26 3 ?_); refine store_row_event rfl 26 (.tmp 3) (.tmp 11) rfl b3 (pCells (PP v3 (.slice (some aT) 1 c6))) rfl rfl 26 _ H3.out size26 rfl (pOne (PP v3 (.slice (some aT) 1 c6)) H1.out.one rfl) rfl ?_; intro W hw; replace H3 := am (show W.heap[b3]? = some (.cells (pCells (PP v3 (.slice (some aT) 1 c6))) 26 (0, 0)) by rw [hw]; exact setRow_heap _ _ _ _ _ _ H3.out); replace HB2 := am (show Below Wm.heap.size Wm W by rw [hw]; exact below_rowS HB2.out HG3.out); clear hw) | ((with_reducible refine gd 12 ?_); refine wpList_load_row rfl 26 (.tmp 3) rfl b3 rfl 26 (pCells (PP v3 (.slice (some aT) 1 c6))) (0, 0) _ H3.out Try.underlying26 rfl size26 ?_) | ((with_reducible refine gd 4 ?_); refine bx 4 (zP) 26 ?_; intro b4 qg W qx qb; have H4 := am qx; have HG4 := am (Nat.le_trans (below_size HB2.out) (Nat.le_of_eq qg.symm)); have HN34 := am (show b3 ≠ b4 by have := blk_lt H3.out; omega); replace H3 := am (blk_below H3.out qb); replace HB2 := am (below_step HB2.out qb); clear qg qx qb) | ((with_reducible refine gs 26 4 ?_); refine store_row_event rfl 26 (.tmp 4) (.tmp 12) rfl b4 (pCells (PP v3 (.slice (some aT) 1 c6))) rfl rfl 26 _ H4.out size26 rfl (pOne (PP v3 (.slice (some aT) 1 c6)) H1.out.one rfl) rfl ?_; intro W hw; replace H3 := am (show W.heap[b3]? = some (.cells (pCells (PP v3 (.slice (some aT) 1 c6))) 26 (0, 0)) by rw [hw]; exact (setRow_other _ _ _ _ (HN34.out)).trans H3.out); replace H4 := am (show W.heap[b4]? = some (.cells (pCells (PP v3 (.slice (some aT) 1 c6))) 26 (0, 0)) by rw [hw]; exact setRow_heap _ _ _ _ _ _ H4.out); replace HB2 := am (show Below Wm.heap.size Wm W by rw [hw]; exact below_rowS HB2.out HG4.out); clear hw; have y36 : W.cell? ⟨b3, 6, none⟩ = some (.slice (some aT) 1 c6) := blk_cell H3.out 6; have yT : W.cell? aT = some (.slice Ac c.length cc) := pw_cell_below HB2.out HT.out.1) | (go_at_call 9; refine (swap_Code.calls k Ac cc c d fr _ (Kd.C_below HT.out.2.2 HB2.out) HT.out.2.1 HC.out).mono ?_; rintro e W5 ⟨v0, v1, rfl, hv0, _, hb⟩; obtain ⟨A0', c0', rfl, hc0', _⟩ := Kd.R_reads hv0; have HC0' := am hc0'; have HV0 := am hv0; have H5 := am hb; replace H3 := am (blk_below H3.out hb); replace H4 := am (blk_below H4.out hb); replace HB2 := am (below_step HB2.out hb); clear hb y36 yT; have HA5 := am (below_alloc (Below.refl W5.heap.size W5) (.cells #[.slice A0' d.length c0'] 28)); have y46 : (W5.alloc (.cells #[.slice A0' d.length c0'] 28)).cell? ⟨b4, 6, none⟩ = some (.slice (some aT) 1 c6) := blk_cell (blk_below H4.out HA5.out) 6; have f46 : (W5.alloc (.cells #[.slice A0' d.length c0'] 28)).frozen? ⟨b4, 6, none⟩ = false := blk_frozen (blk_below H4.out HA5.out) 6; have HN54 := am (show W5.heap.size ≠ b4 by have := blk_lt H4.out; omega); replace HB2 := am (show Below Wm.heap.size Wm (W5.alloc (.cells #[.slice A0' d.length c0'] 28)) from below_step HB2.out HA5.out); clear hv0 hc0') | ((with_reducible refine gs 24 20 ?_); refine sv ((W5.alloc (.cells #[.slice A0' d.length c0'] 28)).setCell ⟨b4, 6, none⟩ (.slice (some ⟨W5.heap.size, 0, none⟩) 1 1)) ?_; intro W7 hw; clear y46 f46; have H9' := am (show Kd.C (Kd.slice 33 k33) W7 (some ⟨W5.heap.size, 0, none⟩) [d].length [d] by rw [hw]; exact C_single (blk_cell (blk_far (blk_new _ _) HN54.out _) 0) HC0'.out (Kd.R_reads' (Kd.R_set (Kd.R_below HV0.out HA5.out) (blk_below H4.out HA5.out) (by decide) 6 _)).2.2); replace H3 := am (show W7.heap[b3]? = some (.cells (pCells (PP v3 (.slice (some aT) 1 c6))) 26 (0, 0)) by rw [hw]; exact blk_far (blk_below H3.out HA5.out) HN34.out _); replace H4 := am (show W7.heap[b4]? = some (.cells (pCells (PP v3 (.slice (some ⟨W5.heap.size, 0, none⟩) 1 1))) 26 (0, 0)) by rw [hw]; exact blk_put (blk_below H4.out HA5.out) 6 _ rfl); replace HB2 := am (show Below Wm.heap.size Wm W7 by rw [hw]; exact HB2.out.setCell HG4.out _); have HPA := am (PF_of (H1.out.below HB2.out) (Kd.C_below H6.out.2 HB2.out) H6.out.1); have HPB := am (PF_of (H1.out.below HB2.out) H9'.out (Nat.le_refl 1)); clear hw H9' HV0) | ((with_reducible refine gd 21 ?_); refine wpList_load_row rfl 26 (.tmp 4) rfl b4 rfl 26 (pCells (PP v3 (.slice (some ⟨W5.heap.size, 0, none⟩) 1 1))) (0, 0) _ H4.out Try.underlying26 rfl size26 ?_) | (go_at_call 18; refine (sound_any (PP v3 (.slice (some ⟨W5.heap.size, 0, none⟩) 1 1)) d [1] _ HPB.out (HA.out.s2 _ _)).mono ?_; rintro e W8 ⟨rfl, hb⟩; replace H3 := am (blk_below H3.out hb); replace H4 := am (blk_below H4.out hb); replace HPA := am (HPA.out.below hb); replace HPB := am (HPB.out.below hb); replace HB2 := am (below_step HB2.out hb); clear hb) | ((with_reducible refine gd 25 ?_); refine wpList_load_row rfl 26 (.tmp 3) rfl b3 rfl 26 (pCells (PP v3 (.slice (some aT) 1 c6))) (0, 0) _ H3.out Try.underlying26 rfl size26 ?_) | (go_at_call 19; refine (round_R v3 (.slice (some aT) 1 c6) c _ HPA.out (HA.out.s1 _ _) HA.out.g1).mono ?_; rintro e W9 ⟨m, vO, vP, vT, rfl, hr, hb⟩; replace H3 := am (blk_below H3.out hb); replace H4 := am (blk_below H4.out hb); replace HPA := am (HPA.out.below hb); replace HPB := am (HPB.out.below hb); replace HB2 := am (below_step HB2.out hb); have HR := am hr; clear hb hr) | ((with_reducible refine gd 5 ?_); refine bx 5 (zR) 47 ?_; intro b5 qg W qx qb; have H5 := am qx; have HG5 := am (Nat.le_trans (below_size HB2.out) (Nat.le_of_eq qg.symm)); have HN35 := am (show b3 ≠ b5 by have := blk_lt H3.out; omega); replace H3 := am (blk_below H3.out qb); have HN45 := am (show b4 ≠ b5 by have := blk_lt H4.out; omega); replace H4 := am (blk_below H4.out qb); replace HB2 := am (below_step HB2.out qb); have HB9 := am qb; have HG9 := am (Nat.le_of_eq qg.symm); clear qg qx qb) | ((with_reducible refine gs 47 5 ?_); refine store_row_event rfl 47 (.tmp 5) (.tmp 27) rfl b5 (rCells vO (stA c m) vP vT) rfl rfl 47 _ H5.out size47 rfl (HR.out.one _) rfl ?_; intro W hw; replace H3 := am (show W.heap[b3]? = some (.cells (pCells (PP v3 (.slice (some aT) 1 c6))) 26 (0, 0)) by rw [hw]; exact (setRow_other _ _ _ _ (HN35.out)).trans H3.out); replace H4 := am (show W.heap[b4]? = some (.cells (pCells (PP v3 (.slice (some ⟨W5.heap.size, 0, none⟩) 1 1))) 26 (0, 0)) by rw [hw]; exact (setRow_other _ _ _ _ (HN45.out)).trans H4.out); replace H5 := am (show W.heap[b5]? = some (.cells (rCells vO (stA c m) vP vT) 47 (0, 0)) by rw [hw]; exact setRow_heap _ _ _ _ _ _ H5.out); replace HB2 := am (show Below Wm.heap.size Wm W by rw [hw]; exact below_rowS HB2.out HG5.out); have hb9 : Below W9.heap.size W9 W := (by rw [hw]; exact below_rowS HB9.out HG9.out); replace HR := am (HR.out.below hb9); replace HPA := am (HPA.out.below hb9); replace HPB := am (HPB.out.below hb9); clear hw hb9 HB9 HG9) | ((with_reducible refine gd 30 ?_); refine wpList_load_row rfl 26 (.tmp 4) rfl b4 rfl 26 (pCells (PP v3 (.slice (some ⟨W5.heap.size, 0, none⟩) 1 1))) (0, 0) _ H4.out Try.underlying26 rfl size26 ?_) | (go_at_call 19; refine (round_R v3 (.slice (some ⟨W5.heap.size, 0, none⟩) 1 1) d _ HPB.out (HA.out.s2 _ _) HA.out.g2).mono ?_; rintro e W10 ⟨n, vO2, vP2, vT2, rfl, hr, hb⟩; replace H3 := am (blk_below H3.out hb); replace H4 := am (blk_below H4.out hb); replace H5 := am (blk_below H5.out hb); replace HR := am (HR.out.below hb); replace HB2 := am (below_step HB2.out hb); have HR2 := am hr; clear hb hr HPA HPB) | ((with_reducible refine gd 7 ?_); refine bx 7 (zR) 47 ?_; intro b7 qg W qx qb; have H7 := am qx; have HG7 := am (Nat.le_trans (below_size HB2.out) (Nat.le_of_eq qg.symm)); have HN37 := am (show b3 ≠ b7 by have := blk_lt H3.out; omega); replace H3 := am (blk_below H3.out qb); have HN47 := am (show b4 ≠ b7 by have := blk_lt H4.out; omega); replace H4 := am (blk_below H4.out qb); have HN57 := am (show b5 ≠ b7 by have := blk_lt H5.out; omega); replace H5 := am (blk_below H5.out qb); replace HB2 := am (below_step HB2.out qb); have HB9 := am qb; have HG9 := am (Nat.le_of_eq qg.symm); clear qg qx qb) | ((with_reducible refine gs 47 7 ?_); refine store_row_event rfl 47 (.tmp 7) (.tmp 32) rfl b7 (rCells vO2 (stA d n) vP2 vT2) rfl rfl 47 _ H7.out size47 rfl (HR2.out.one _) rfl ?_; intro W hw; replace H3 := am (show W.heap[b3]? = some (.cells (pCells (PP v3 (.slice (some aT) 1 c6))) 26 (0, 0)) by rw [hw]; exact (setRow_other _ _ _ _ (HN37.out)).trans H3.out); replace H4 := am (show W.heap[b4]? = some (.cells (pCells (PP v3 (.slice (some ⟨W5.heap.size, 0, none⟩) 1 1))) 26 (0, 0)) by rw [hw]; exact (setRow_other _ _ _ _ (HN47.out)).trans H4.out); replace H5 := am (show W.heap[b5]? = some (.cells (rCells vO (stA c m) vP vT) 47 (0, 0)) by rw [hw]; exact (setRow_other _ _ _ _ (HN57.out)).trans H5.out); replace H7 := am (show W.heap[b7]? = some (.cells (rCells vO2 (stA d n) vP2 vT2) 47 (0, 0)) by rw [hw]; exact setRow_heap _ _ _ _ _ _ H7.out); replace HB2 := am (show Below Wm.heap.size Wm W by rw [hw]; exact below_rowS HB2.out HG7.out); have hb9 : Below W10.heap.size W10 W := (by rw [hw]; exact below_rowS HB9.out HG9.out); replace HR := am (HR.out.below hb9); replace HR2 := am (HR2.out.below hb9); clear hw hb9 HB9 HG9))
  obtain ⟨AE, cE, evs, rfl, _, hE1, hE2⟩ := HR.out.t
  have HE := am (And.intro hE1 hE2)
  clear hE1 hE2
  by_cases hs : stA c m = 0
  · as_aux_lemma =>
      rw [hs] at H5
      clear hs
      go_wp2_with (first | (go_at_call 12; refine (interlocklaw19_known.calls k true _ HK.out).mono ?_; rintro e W11 ⟨rfl, hb⟩; replace H3 := am (blk_below H3.out hb); replace H5 := am (blk_below H5.out hb); replace H7 := am (blk_below H7.out hb); have HBX := am hb; clear hb; have y51 := blk_cell H5.out 1; have y53 := blk_cell H5.out 3) | ((with_reducible refine gd 64 ?_); (try (refine gate_guard (by rfl) ?_; dsimp only)); refine wpList_load_row rfl 26 (.tmp 3) rfl b3 rfl 26 (pCells (PP v3 (.slice (some aT) 1 c6))) (0, 0) _ H3.out Try.underlying26 rfl size26 ?_) | (go_at_call 20; refine (find_any (PP v3 (.slice (some aT) 1 c6)) AE m cE evs _ (Kd.C_below HE.out.1 HBX.out) HE.out.2 HR.out.e.le (pOne (PP v3 (.slice (some aT) 1 c6)) H1.out.one rfl)).mono ?_; rintro e W13 ⟨rfl, hb⟩; replace HBX := am (below_step HBX.out hb); clear hb))
      go_ret
      exact ⟨rfl, below_step HB.out (below_step HB2.out HBX.out)⟩
  · as_aux_lemma =>
      obtain ⟨e1, e2, e3⟩ := HA.out.same m n HR.out.e HR2.out.e hs
      subst e1
      have hO := HR.out.o
      have hO2 := HR2.out.o
      rw [e3] at hO2
      rw [e2] at H7
      generalize (atA c m).1 11 = L at hO hO2
      generalize stA c m = s at hs H5 H7
      obtain ⟨AO, cO, rfl, hO⟩ := hO
      obtain ⟨AO2, cO2, rfl, hO2⟩ := hO2
      obtain ⟨AP, cP, rfl, _⟩ := HR.out.p
      obtain ⟨AP2, cP2, rfl, _⟩ := HR2.out.p
      rw [List.length_replicate] at H5 H7
      obtain ⟨k2, hk2⟩ := same_f L hO.2.2.1
      have HO := am hO
      have HO2 := am hO2
      have s0 := beq_eq_false_iff_ne.2 hs
      clear hs e2 e3 hO hO2
      go_wp2_with (first | (go_at_call 12; refine (interlocklaw19_known.calls k true _ HK.out).mono ?_; rintro e W11 ⟨rfl, hb⟩; replace H3 := am (blk_below H3.out hb); replace H5 := am (blk_below H5.out hb); replace H7 := am (blk_below H7.out hb); have HBX := am hb; clear hb; have y50 := blk_cell H5.out 0; have y51 := blk_cell H5.out 1; have y52 := blk_cell H5.out 2; have y53 := blk_cell H5.out 3; have y70 := blk_cell H7.out 0; have y71 := blk_cell H7.out 1; have y72 := blk_cell H7.out 2) | (go_at_call 15; refine (interlockref01_Same.calls k2 AO cO L AO2 cO2 L true _ (Kd.C_below HO.out.2 HBX.out) HO.out.1 (Kd.C_below HO2.out.2 HBX.out) HO2.out.1 hk2).mono ?_; rintro e W12 ⟨rfl, hd⟩; have hb := hd.below; replace H3 := am (blk_below H3.out hb); replace H5 := am (blk_below H5.out hb); replace H7 := am (blk_below H7.out hb); replace HBX := am (below_step HBX.out hb); clear hd hb y50 y51 y52 y53 y70 y71 y72; have y50 := blk_cell H5.out 0; have y51 := blk_cell H5.out 1; have y52 := blk_cell H5.out 2; have y53 := blk_cell H5.out 3; have y70 := blk_cell H7.out 0; have y71 := blk_cell H7.out 1; have y72 := blk_cell H7.out 2) | ((with_reducible refine gd 64 ?_); (try (refine gate_guard (by rfl) ?_; dsimp only)); refine wpList_load_row rfl 26 (.tmp 3) rfl b3 rfl 26 (pCells (PP v3 (.slice (some aT) 1 c6))) (0, 0) _ H3.out Try.underlying26 rfl size26 ?_) | (go_at_call 20; refine (find_any (PP v3 (.slice (some aT) 1 c6)) AE m cE evs _ (Kd.C_below HE.out.1 HBX.out) HE.out.2 HR.out.e.le (pOne (PP v3 (.slice (some aT) 1 c6)) H1.out.one rfl)).mono ?_; rintro e W13 ⟨rfl, hb⟩; replace HBX := am (below_step HBX.out hb); clear hb))
      go_ret
      exact ⟨rfl, below_step HB.out (below_step HB2.out HBX.out)⟩
end Go.Proofs.Yticdodbnjlnjlaa.P
