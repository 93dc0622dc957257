-- written by this project's xprint.py (a turn of the kit's printer; its own texts among them)
import Derived.Test.YtbnkeddnibjncaaDoorPx0
import Derived.Test.YtbnkeddnibjncaaDoorPx2
import Derived.Test.YtbnkeddnibjncaaDoorPx3
namespace Go.Proofs.YtbnkeddnibjncaaDoor.P
open Go.RowKit Go.Proofs.YtbnkeddnibjncaaDoorW.PrintWords Go.Proofs.YtbnkeddnibjncaaDoorW.PrintLast Go.Proofs.YtbnkeddnibjncaaDoorW.PrintMore
attribute [local go_sem] max2_int min2_int max_two min_two max_three min_three max_four min_four   -- for this text's walks alone
attribute [local irreducible] Calls
set_option linter.unusedVariables false
set_option linter.unusedSimpArgs false

/-! ### loop_Of: function 9 -/
/-! A scope with one label, to which the run jumps back: what holds there bears a state of the proof's own. -/
theorem wp_scope_ghost {P : Program} {σ : Type} {c X : Code} {Q : Exit → Act → World → Prop} {a : Act} {w : World} (l : Nat) (J : σ → Act → World → Prop) (μ : σ → Nat) (hf : findLabel c l = some (.seq .skip X))
    (pass : ∀ s a w, J s a w → X.wp P (Exit.jump l (fun a' w' => ∃ s', J s' a' w' ∧ μ s' < μ s) Q) a w)
    (first : (∀ s a w, J s a w → X.wp P (Exit.jump l (fun a' w' => ∃ s', J s' a' w') Q) a w) → c.wp P (Exit.jump l (fun a w => ∃ s, J s a w) Q) a w) : (Code.scope c).wp P Q a w := by
  classical
  refine wp_scope_jumps l (fun a w => ∃ s, J s a w) (fun a w => if h : ∃ n, ∃ s, J s a w ∧ μ s = n then (exists_least h).choose else 0) hf (first (fun s a w h => wp_mono (pass s a w h) ?_)) ?_
  · intro e a' w' hq
    cases e with
    | goto l' => obtain ⟨rfl, s', hs', _⟩ := hq; exact ⟨rfl, s', hs'⟩
    | normal => exact hq
    | exit id => exact hq
    | ret => exact hq
    | panic ch => exact hq
    | outgrown => exact hq
  rintro a w ⟨s0, h0⟩
  have hex : ∃ n, ∃ s, J s a w ∧ μ s = n := ⟨_, s0, h0, rfl⟩
  obtain ⟨⟨s, hs, hm⟩, hmin⟩ := (exists_least hex).choose_spec
  refine wp_seq (wp_skip ?_)
  refine wp_mono (pass s a w hs) ?_
  intro e a' w' hq
  cases e with
  | goto l' =>
    obtain ⟨rfl, s', hs', hlt⟩ := hq
    refine ⟨rfl, ⟨s', hs'⟩, ?_⟩
    have hex' : ∃ n, ∃ s, J s a' w' ∧ μ s = n := ⟨_, s', hs', rfl⟩
    have := (exists_least hex').choose_spec.2 (μ s') ⟨s', hs', rfl⟩
    rw [dif_pos hex, dif_pos hex']
    omega
  | normal => exact hq
  | exit id => exact hq
  | ret => exact hq
  | panic ch => exact hq
  | outgrown => exact hq
/-- The row that is made, and the world ahead of it. -/
structure Ow (wA w : World) (vO : Value) (n : Nat) (out : List Int) : Prop where
  ro : Kd.R (Kd.int .u64) 33 w wA.heap.size (fun _ => True) vO out
  lo : out.length = n
  below : Below wA.heap.size wA w
theorem Ow.later {wA w w' : World} {vO : Value} {n : Nat} {out : List Int} (h : Ow wA w vO n out) (hb : Below w.heap.size w w') : Ow wA w' vO n out :=
  ⟨Kd.R_below h.ro hb, h.lo, below_step h.below hb⟩
theorem Ow.put {wA w : World} {vO : Value} {n : Nat} {out : List Int} (h : Ow wA w vO n out) {g c : Nat} (e : vO = .slice (some ⟨g, 0, none⟩) n c) (i v : Int) : Ow wA (w.setCell ⟨g, i.toNat, none⟩ (.int .u64 v)) vO n (out.set i.toNat v) := by
  have eb : vO.ownBlock = some g := by rw [e]; rfl
  have hB := Kd.R_base h.ro g eb
  have hp : Kd.R (Kd.int .u64) 33 (w.setCell ⟨g, i.toNat, none⟩ (.int .u64 v)) wA.heap.size (fun _ => True) vO (out.set i.toNat v) := by
    have h1 := h.ro
    rw [e] at h1 ⊢
    exact (Kd.R_putg h1 i v).1
  exact ⟨hp, by rw [List.length_set]; exact h.lo, h.below.setCell hB _⟩
theorem Ow.cell {wA w : World} {vO : Value} {n : Nat} {out : List Int} (h : Ow wA w vO n out) {g c : Nat} (e : vO = .slice (some ⟨g, 0, none⟩) n c) (i : Nat) (h1 : i < n) : w.cell? ⟨g, i, none⟩ = some (.int .u64 (rd out (i : Int))) ∧ w.frozen? ⟨g, i, none⟩ = false := by
  have hr := h.ro
  rw [e] at hr
  have := Kd.R_celln 0 hr (i : Int) (by omega) (by omega)
  rw [Int.toNat_natCast] at this
  exact this
/-- A truth value of a row that is read. -/
theorem at_Bool {w : World} {A : Option Addr} {n : Nat} {xs : List Bool} (h : Kd.C Kd.bool w A n xs) (i : Nat) (h1 : i < n) : ∃ ad, A = some ad ∧ w.cell? (ad.add i) = some (.bool (xs.getD i false)) := by
  obtain ⟨ad, c, e, _, hK, hc0⟩ := Kd.C_get h false (i : Int) (by omega) (by omega)
  have hc : ∀ j u, c[j]? = some u → w.cell? (ad.add ((i : Int).toNat * 1 + j)) = some u := hc0
  obtain rfl : c = [.bool (rdOf false xs (i : Int))] := hK
  refine ⟨ad, e, ?_⟩
  have hq := hc 0 _ rfl
  rw [Nat.mul_one, Nat.add_zero, Int.toNat_natCast] at hq
  rw [hq]
  unfold rdOf
  rw [Int.toNat_natCast]
theorem at_Int {w : World} {A : Option Addr} {n : Nat} {xs : List Int} (h : Kd.C (Kd.int .i64) w A n xs) (i : Nat) (h1 : i < n) : ∃ ad, A = some ad ∧ w.cell? (ad.add i) = some (.int .i64 (xs.getD i 0)) := by
  obtain ⟨ad, c, e, _, hK, hc0⟩ := Kd.C_get h (0 : Int) (i : Int) (by omega) (by omega)
  have hc : ∀ j u, c[j]? = some u → w.cell? (ad.add ((i : Int).toNat * 1 + j)) = some u := hc0
  obtain rfl : c = [.int .i64 (rdOf 0 xs (i : Int))] := hK
  refine ⟨ad, e, ?_⟩
  have hq := hc 0 _ rfl
  rw [Nat.mul_one, Nat.add_zero, Int.toNat_natCast] at hq
  rw [hq]
  unfold rdOf
  rw [Int.toNat_natCast]
def domS (reach : List Bool) (out : List Int) (s : Int) (ps : List Int) : Int := ps.foldl (fun s p => if reach.getD p.toNat false = true then Go.bits .and .u64 s (rd out p) else s) s
theorem domS_snoc (reach : List Bool) (out : List Int) (s : Int) (ps : List Int) (j : Nat) (hj : j < ps.length) : domS reach out s (ps.take (j + 1)) = if reach.getD (ps.getD j 0).toNat false = true then Go.bits .and .u64 (domS reach out s (ps.take j)) (rd out (ps.getD j 0)) else domS reach out s (ps.take j) := by
  have e : ps.getD j 0 = ps[j] := by rw [List.getD_eq_getElem?_getD, List.getElem?_eq_getElem hj]; rfl
  rw [e]
  unfold domS
  rw [List.take_add_one, List.foldl_append, List.getElem?_eq_getElem hj]
  rfl
def domPass (k : Nat) (reach : List Bool) (preds : List (List Int)) (al : Int) : Nat → Nat → List Int → Option (Bool × List Int)
  | 0, _, out => some (false, out)
  | d + 1, i, out => if reach.getD i false = true then (bits_With.f k (domS reach out al (preds.getD i [])) [(i : Int)]).bind fun s => if s = rd out (i : Int) then domPass k reach preds al d (i + 1) out else some (true, out.set i s) else domPass k reach preds al d (i + 1) out
def domsR (k : Nat) (reach : List Bool) (preds : List (List Int)) (al : Int) (n : Nat) : Nat → List Int → Option (List Int)
  | 0, _ => none
  | d + 1, out => (domPass k reach preds al (n - 1) 1 out).bind fun r => if r.1 = true then domsR k reach preds al n d r.2 else some r.2
def dom0 (reach : List Bool) (al : Int) (n : Nat) : List Int := (List.range n).map fun i => if i = 0 ∨ reach.getD i false = false then 0 else al
def inRows (n : Nat) (preds : List (List Int)) : Bool := preds.all fun l => decide (l.length ≤ 1000000) && l.all fun p => decide (0 ≤ p) && decide (p < (n : Int))
theorem inRows_get {n : Nat} {preds : List (List Int)} (h : inRows n preds = true) (i j : Nat) (hi : i < preds.length) (hj : j < (preds.getD i []).length) : 0 ≤ (preds.getD i []).getD j 0 ∧ (preds.getD i []).getD j 0 < (n : Int) := by
  unfold inRows at h
  have h1 := List.all_eq_true.1 h (preds.getD i []) (by rw [List.getD_eq_getElem?_getD, List.getElem?_eq_getElem hi]; exact List.getElem_mem hi)
  rw [Bool.and_eq_true] at h1
  have h2 := List.all_eq_true.1 h1.2 ((preds.getD i []).getD j 0) (by rw [List.getD_eq_getElem?_getD (l := preds.getD i []), List.getElem?_eq_getElem hj]; exact List.getElem_mem hj)
  rw [Bool.and_eq_true, decide_eq_true_eq, decide_eq_true_eq] at h2
  exact h2
theorem inRows_len {n : Nat} {preds : List (List Int)} (h : inRows n preds = true) (i : Nat) (hi : i < preds.length) : (preds.getD i []).length ≤ 1000000 := by
  unfold inRows at h
  have h1 := List.all_eq_true.1 h (preds.getD i []) (by rw [List.getD_eq_getElem?_getD, List.getElem?_eq_getElem hi]; exact List.getElem_mem hi)
  rw [Bool.and_eq_true, decide_eq_true_eq] at h1
  exact h1.1
/-- The first loop: so many places are begun. -/
def domF (reach : List Bool) (al : Int) (n j : Nat) : List Int := (dom0 reach al n).take j ++ List.replicate (n - j) 0
theorem dom0_len (reach : List Bool) (al : Int) (n : Nat) : (dom0 reach al n).length = n := by unfold dom0; rw [List.length_map, List.length_range]
theorem domF_zero (reach : List Bool) (al : Int) (n : Nat) : domF reach al n 0 = List.replicate n 0 := by unfold domF; simp
theorem domF_full (reach : List Bool) (al : Int) (n : Nat) : domF reach al n n = dom0 reach al n := by
  unfold domF
  rw [Nat.sub_self, List.replicate_zero, List.append_nil, List.take_of_length_le (by rw [dom0_len]; exact Nat.le_refl _)]
theorem domF_step (reach : List Bool) (al : Int) (n j : Nat) (hj : j < n) : (domF reach al n j).set j (if j = 0 ∨ reach.getD j false = false then 0 else al) = domF reach al n (j + 1) := by
  unfold domF
  have hl : ((dom0 reach al n).take j).length = j := by rw [List.length_take, dom0_len]; omega
  rw [List.set_append_right _ _ (by omega), hl, Nat.sub_self, show n - j = (n - (j + 1)) + 1 by omega, List.replicate_succ, List.set_cons_zero, List.take_add_one, List.append_assoc]
  congr 1
  have : (dom0 reach al n)[j]? = some (if j = 0 ∨ reach.getD j false = false then 0 else al) := by
    unfold dom0
    rw [List.getElem?_map, List.getElem?_range hj]; rfl
  rw [this]
  rfl
def DomP (w : World) (r : List Int) (e : Ending) (w' : World) : Prop := ∃ v0_ : Value, e = .returned v0_ ∧ Kd.R (Kd.int .u64) 33 w' w.heap.size (fun _ => True) v0_ r ∧ Below w.heap.size w w'
def DomJ (w : World) (A : Option Addr) (c : Nat) (ss : List (List Int)) (k : Nat) (reach : List Bool) (preds : List (List Int)) (al : Int) (res : List Int) (s : Nat × List Int) (a' : Act) (w' : World) : Prop :=
  ∃ (wA : World) (AR : Option Addr) (cR : Nat) (AP : Option Addr) (cP : Nat) (AO : Option Addr) (cO : Nat), Aside0 (Below w.heap.size w wA) ∧ Aside0 (Kd.C Kd.bool wA AR ss.length reach) ∧ Aside0 (Kd.C (Kd.slice 3 (Kd.int .i64)) wA AP ss.length preds) ∧ Aside0 (Ow wA w' (.slice AO ss.length cO) ss.length s.2) ∧ Aside0 (domsR k reach preds al ss.length s.1 s.2 = some res) ∧
    ∃ U : Nat → Value, a' = { tmps := #[.slice A ss.length c, U 1, .slice none 0 0, .int .i64 (ss.length : Int), .slice AR ss.length cR, .slice AP ss.length cP, .slice AO ss.length cO, U 7, U 8, U 9, U 10, U 11, U 12, U 13, U 14, U 15, U 16, U 17, U 18, U 19, U 20, U 21, U 22, U 23, U 24, U 25, U 26, U 27, U 28, U 29, U 30, U 31, U 32, U 33, U 34, U 35, U 36, U 37, U 38, U 39, U 40, U 41, U 42, U 43, U 44, U 45, U 46, U 47, U 48, U 49, U 50, U 51, U 52, U 53, U 54, U 55, U 56, U 57, U 58, U 59, U 60, U 61, U 62, U 63, U 64, U 65, U 66, U 67, U 68, U 69, U 70, U 71, U 72, U 73, U 74, U 75, U 76, U 77, U 78, U 79, U 80, U 81, U 82, U 83, U 84, U 85, U 86, U 87, U 88, U 89, U 90, U 91, U 92, U 93, U 94, U 95, U 96, U 97], defers := [] }
theorem dom_frame (A : Option Addr) (c n : Nat) (AR : Option Addr) (cR : Nat) (AP : Option Addr) (cP : Nat) (AO : Option Addr) (cO : Nat) (u1 u7 u8 u9 u10 u11 u12 u13 u14 u15 u16 u17 u18 u19 u20 u21 u22 u23 u24 u25 u26 u27 u28 u29 u30 u31 u32 u33 u34 u35 u36 u37 u38 u39 u40 u41 u42 u43 u44 u45 u46 u47 u48 u49 u50 u51 u52 u53 u54 u55 u56 u57 u58 u59 u60 u61 u62 u63 u64 u65 u66 u67 u68 u69 u70 u71 u72 u73 u74 u75 u76 u77 u78 u79 u80 u81 u82 u83 u84 u85 u86 u87 u88 u89 u90 u91 u92 u93 u94 u95 u96 u97 : Value) : ∃ U : Nat → Value, ({ tmps := #[.slice A n c, u1, .slice none 0 0, .int .i64 (n : Int), .slice AR n cR, .slice AP n cP, .slice AO n cO, u7, u8, u9, u10, u11, u12, u13, u14, u15, u16, u17, u18, u19, u20, u21, u22, u23, u24, u25, u26, u27, u28, u29, u30, u31, u32, u33, u34, u35, u36, u37, u38, u39, u40, u41, u42, u43, u44, u45, u46, u47, u48, u49, u50, u51, u52, u53, u54, u55, u56, u57, u58, u59, u60, u61, u62, u63, u64, u65, u66, u67, u68, u69, u70, u71, u72, u73, u74, u75, u76, u77, u78, u79, u80, u81, u82, u83, u84, u85, u86, u87, u88, u89, u90, u91, u92, u93, u94, u95, u96, u97], defers := [] } : Act) = { tmps := #[.slice A n c, U 1, .slice none 0 0, .int .i64 (n : Int), .slice AR n cR, .slice AP n cP, .slice AO n cO, U 7, U 8, U 9, U 10, U 11, U 12, U 13, U 14, U 15, U 16, U 17, U 18, U 19, U 20, U 21, U 22, U 23, U 24, U 25, U 26, U 27, U 28, U 29, U 30, U 31, U 32, U 33, U 34, U 35, U 36, U 37, U 38, U 39, U 40, U 41, U 42, U 43, U 44, U 45, U 46, U 47, U 48, U 49, U 50, U 51, U 52, U 53, U 54, U 55, U 56, U 57, U 58, U 59, U 60, U 61, U 62, U 63, U 64, U 65, U 66, U 67, U 68, U 69, U 70, U 71, U 72, U 73, U 74, U 75, U 76, U 77, U 78, U 79, U 80, U 81, U 82, U 83, U 84, U 85, U 86, U 87, U 88, U 89, U 90, U 91, U 92, U 93, U 94, U 95, U 96, U 97], defers := [] } := ⟨fun i => [.slice A n c, u1, .slice none 0 0, .int .i64 (n : Int), .slice AR n cR, .slice AP n cP, .slice AO n cO, u7, u8, u9, u10, u11, u12, u13, u14, u15, u16, u17, u18, u19, u20, u21, u22, u23, u24, u25, u26, u27, u28, u29, u30, u31, u32, u33, u34, u35, u36, u37, u38, u39, u40, u41, u42, u43, u44, u45, u46, u47, u48, u49, u50, u51, u52, u53, u54, u55, u56, u57, u58, u59, u60, u61, u62, u63, u64, u65, u66, u67, u68, u69, u70, u71, u72, u73, u74, u75, u76, u77, u78, u79, u80, u81, u82, u83, u84, u85, u86, u87, u88, u89, u90, u91, u92, u93, u94, u95, u96, u97].getD i undef, rfl⟩
set_option maxHeartbeats 8000000 in
set_option maxRecDepth 100000 in
theorem doms_any (A : Option Addr) (c : Nat) (ss : List (List Int)) (w : World) (hr : Kd.C (Kd.slice 3 (Kd.int .i64)) w A ss.length ss) (hc : ss.length ≤ c) (hn : ss.length ≤ 64) (k : Nat) (reach : List Bool) (preds : List (List Int)) (al one : Int) (res : List Int)
    (h1 : cfg_Reach.f k ss = some reach) (h2 : cfg_Preds.f k ss = some preds) (l1 : reach.length = ss.length) (l2 : preds.length = ss.length) (h3 : inRows ss.length preds = true) (h4 : bits_All.f (ss.length : Int) = some al) (h5 : bits_With.f k 0 [0] = some one)
    (h6 : domsR k reach preds al ss.length k ((dom0 reach al ss.length).set 0 one) = some res) :
    Calls Tryd.prog 21 #[.slice A ss.length c] w (DomP w res) := by
  have HR := Aside0.mk hr
  have HC := Aside0.mk hc
  have H1 := Aside0.mk h1
  have H2 := Aside0.mk h2
  have H3 := Aside0.mk h3
  have H4 := Aside0.mk h4
  have H5 := Aside0.mk h5
  have H6 := Aside0.mk h6
  have L1 := Aside0.mk l1
  have L2 := Aside0.mk l2
  have HN := Aside0.mk hn
  have dn : decide ((64 : Int) < (ss.length : Int)) = false := decide_eq_false (by omega)
  clear hr hc h1 h2 h3 h4 h5 h6 l1 l2
  go_enter Tryd.func21, Tryd.ntmps21
  go_wp2
  refine wp_scope_ghost (σ := Nat × List Int) 0 (DomJ w A c ss k reach preds al res) (fun s => s.1) rfl ?pass ?first
  case first =>
    intro pass
    have PASS := Aside0.mk pass
    clear pass
    go_wp2_with (first | (go_at_call 22; refine (cfg_Reach.calls k _ _ _ reach _ HR.out HC.out H1.out).mono ?_; rintro e w1 ⟨v1, rfl, ho1, hb1⟩; have HO1 := Aside0.mk ho1; have HB1 := Aside0.mk hb1; clear ho1 hb1) | (go_at_call 20; refine (cfg_Preds.calls k _ _ _ preds _ (Kd.C_below HR.out HB1.out) HC.out H2.out).mono ?_; rintro e wA ⟨v2, rfl, ho2, hb2⟩; have HO2 := Aside0.mk ho2; have HB2 := Aside0.mk hb2; clear ho2 hb2) | (refine gate_ (.makeSlice 27 (.tmp 20) (.tmp 20)) rfl ?_; refine Kd.R_make (Kd.int .u64) (w0 := wA) wA.heap.size 33 rfl rfl 27 (.tmp 20) (.tmp 20) rfl (ss.length : Int) rfl rfl Tryd.underlying27 (.int .u64 0) 8 info33 rfl (by decide) (by decide) 0 (ok := fun _ => True) (okp := fun _ => False) ?hz (fun _ h => h.elim) trivial (by omega) ?hl (Below.refl _ _) (Nat.le_refl _) ?_; (case hz => rfl); (case hl => (rw [Int.toNat_natCast]; omega)); intro vO w2 hA hb3 hgA hoA; rw [Int.toNat_natCast] at hA; have HA := Aside0.mk hA; have HB3 := Aside0.mk hb3; clear hA hb3 hgA hoA; have HO1_ := HO1; obtain ⟨AR, cR, e1, lR, rR⟩ := Kd.R_reads HO1.out; obtain ⟨AP, cP, e2, lP, rP⟩ := Kd.R_reads (Kd.S_R HO2.out); rw [L1.out] at e1 rR; rw [L2.out] at e2 rP; have HRR : Aside0 (Kd.C Kd.bool wA AR ss.length reach) := ⟨Kd.C_below rR HB2.out⟩; have HRP := Aside0.mk rP; clear rR rP lR lP HO1 HO2 HO1_; subst e1 e2; obtain ⟨AO, cO, eO⟩ := Kd.R_slice HA.out; rw [List.length_replicate] at eO; subst eO; have S0 : Aside0 (Ow wA w2 (.slice AO ss.length cO) ss.length (domF reach al ss.length 0)) := ⟨by rw [domF_zero]; exact ⟨HA.out, List.length_replicate, HB3.out⟩⟩; have HBA : Aside0 (Below w.heap.size w wA) := ⟨below_step HB1.out HB2.out⟩; clear HA HB3 HB1 HB2))
    go_loopw [24] (fun v24 wr => ∃ j : Nat, j ≤ ss.length ∧ v24 = .int .i64 (j : Int) ∧ Aside0 (Ow wA wr (.slice AO ss.length cO) ss.length (domF reach al ss.length j))) (fun v24 _ => ss.length - (intOf v24).toNat)
    case atStart => exact ⟨0, Nat.zero_le _, rfl, S0⟩
    case round =>
      clear S0
      obtain ⟨j, hj, rfl, S1⟩ := hrel
      by_cases hlt : j < ss.length
      · obtain ⟨gO, cO', eO, _⟩ := Kd.R_form S1.out.ro (by have := S1.out.lo; omega)
        have aO : AO = some ⟨gO, 0, none⟩ := by injection eO
        clear eO
        subst aO
        have pj0 := eq_true (show (0 : Int) ≤ (j : Int) by omega)
        have pj1 := eq_true (show (j : Int) < (ss.length : Int) by omega)
        obtain ⟨adR, eR, _⟩ := at_Bool HRR.out j hlt
        subst eR
        have HLT := Aside0.mk hlt
        have hset := domF_step reach al ss.length j hlt
        have HSET := Aside0.mk hset
        clear hset
        have HSS : Aside0 (∀ u v, ((domF reach al ss.length j).set j u).set j v = (domF reach al ss.length j).set j v) := ⟨fun u v => by rw [List.set_set]⟩
        by_cases hj0 : j = 0
        · subst hj0
          clear pj0
          go_wp2_with (first | (go_at_call 33; refine (bits_All.calls (ss.length : Int) al _ H4.out).mono ?_; rintro e wq ⟨rfl, hd⟩; have S2 := Aside0.mk (S1.out.later hd.below); clear S1 hd; obtain ⟨hx0, hf0⟩ := S2.out.cell rfl 0 HLT.out) | ((with_reducible refine gate_store (t := 33) (p := 31) rfl ?_); refine store_event (w1 := (wq.setCell ⟨gO, 0, none⟩ (.int .u64 al))) rfl rfl rfl ?hr ?_; (case hr => first | (go_simp; done) | (go_simp; rfl)); intro w3 hS; have S3 : Aside0 (Ow wA w3 (.slice (some ⟨gO, 0, none⟩) ss.length cO) ss.length ((domF reach al ss.length 0).set 0 al)) := ⟨by rw [hS]; have h := S2.out.put rfl (0 : Int) al; first | exact h | (rw [Int.toNat_natCast] at h; exact h)⟩; clear hS; clear S2 hx0 hf0; obtain ⟨hx0, hf0⟩ := S3.out.cell rfl 0 HLT.out) | ((with_reducible refine gate_store (t := 33) (p := 43) rfl ?_); refine store_event (w1 := (w3.setCell ⟨gO, 0, none⟩ (.int .u64 0))) rfl rfl rfl ?hr ?_; (case hr => first | (go_simp; done) | (go_simp; rfl)); intro w4 hS; have S4 : Aside0 (Ow wA w4 (.slice (some ⟨gO, 0, none⟩) ss.length cO) ss.length (((domF reach al ss.length 0).set 0 al).set 0 0)) := ⟨by rw [hS]; have h := S3.out.put rfl (0 : Int) 0; first | exact h | (rw [Int.toNat_natCast] at h; exact h)⟩; clear hS; clear S3 hx0 hf0))
          have S5 : Aside0 (Ow wA w4 (.slice (some ⟨gO, 0, none⟩) ss.length cO) ss.length (domF reach al ss.length (0 + 1))) := ⟨by
            have h := S4.out
            rw [HSS.out] at h
            rw [← HSET.out, if_pos (Or.inl trivial)]
            exact h⟩
          go_roundw
          case rel => exact ⟨0 + 1, by omega, by go_num, S5⟩
          case measure => simp [intOf]; omega
        · have dj : decide ((j : Int) = 0) = false := decide_eq_false (by omega)
          cases hre : reach.getD j false with
          | false =>
            have HRE := Aside0.mk hre
            go_wp2_with (first | (go_at_call 33; refine (bits_All.calls (ss.length : Int) al _ H4.out).mono ?_; rintro e wq ⟨rfl, hd⟩; have S2 := Aside0.mk (S1.out.later hd.below); clear S1 hd; obtain ⟨hx0, hf0⟩ := S2.out.cell rfl j HLT.out) | ((with_reducible refine gate_store (t := 33) (p := 31) rfl ?_); refine store_event (w1 := (wq.setCell ⟨gO, j, none⟩ (.int .u64 al))) rfl rfl rfl ?hr ?_; (case hr => first | (go_simp; done) | (go_simp; rfl)); intro w3 hS; have S3 : Aside0 (Ow wA w3 (.slice (some ⟨gO, 0, none⟩) ss.length cO) ss.length ((domF reach al ss.length j).set j al)) := ⟨by rw [hS]; have h := S2.out.put rfl (j : Int) al; (first | rw [Int.toNat_natCast] at h | skip); exact h⟩; clear hS; clear S2 hx0 hf0; obtain ⟨hx0, hf0⟩ := S3.out.cell rfl j HLT.out; have hb0 : w3.cell? (adR.add j) = some (.bool (reach.getD j false)) := (by obtain ⟨ad2, e2, hq⟩ := at_Bool (Kd.C_below HRR.out S3.out.below) j HLT.out; cases e2; exact hq); rw [HRE.out] at hb0) | ((with_reducible refine gate_store (t := 33) (p := 43) rfl ?_); refine store_event (w1 := (w3.setCell ⟨gO, j, none⟩ (.int .u64 0))) rfl rfl rfl ?hr ?_; (case hr => first | (go_simp; done) | (go_simp; rfl)); intro w4 hS; have S4 : Aside0 (Ow wA w4 (.slice (some ⟨gO, 0, none⟩) ss.length cO) ss.length (((domF reach al ss.length j).set j al).set j 0)) := ⟨by rw [hS]; have h := S3.out.put rfl (j : Int) 0; (first | rw [Int.toNat_natCast] at h | skip); exact h⟩; clear hS; clear S3 hx0 hf0))
            have S5 : Aside0 (Ow wA w4 (.slice (some ⟨gO, 0, none⟩) ss.length cO) ss.length (domF reach al ss.length (j + 1))) := ⟨by
              have h := S4.out
              rw [HSS.out] at h
              rw [← HSET.out, if_pos (Or.inr HRE.out)]
              exact h⟩
            go_roundw
            case rel => exact ⟨j + 1, by omega, by go_num, S5⟩
            case measure => simp [intOf]; omega
          | true =>
            have HRE := Aside0.mk hre
            have HJ0 := Aside0.mk hj0
            go_wp2_with (first | (go_at_call 33; refine (bits_All.calls (ss.length : Int) al _ H4.out).mono ?_; rintro e wq ⟨rfl, hd⟩; have S2 := Aside0.mk (S1.out.later hd.below); clear S1 hd; obtain ⟨hx0, hf0⟩ := S2.out.cell rfl j HLT.out) | ((with_reducible refine gate_store (t := 33) (p := 31) rfl ?_); refine store_event (w1 := (wq.setCell ⟨gO, j, none⟩ (.int .u64 al))) rfl rfl rfl ?hr ?_; (case hr => first | (go_simp; done) | (go_simp; rfl)); intro w3 hS; have S3 : Aside0 (Ow wA w3 (.slice (some ⟨gO, 0, none⟩) ss.length cO) ss.length ((domF reach al ss.length j).set j al)) := ⟨by rw [hS]; have h := S2.out.put rfl (j : Int) al; (first | rw [Int.toNat_natCast] at h | skip); exact h⟩; clear hS; clear S2 hx0 hf0; obtain ⟨hx0, hf0⟩ := S3.out.cell rfl j HLT.out; have hb0 : w3.cell? (adR.add j) = some (.bool (reach.getD j false)) := (by obtain ⟨ad2, e2, hq⟩ := at_Bool (Kd.C_below HRR.out S3.out.below) j HLT.out; cases e2; exact hq); rw [HRE.out] at hb0))
            have S5 : Aside0 (Ow wA w3 (.slice (some ⟨gO, 0, none⟩) ss.length cO) ss.length (domF reach al ss.length (j + 1))) := ⟨by
              have h := S3.out
              rw [← HSET.out, if_neg (by rw [HRE.out]; intro hh; rcases hh with hh | hh; exact HJ0.out hh; cases hh)]
              exact h⟩
            go_roundw
            case rel => exact ⟨j + 1, by omega, by go_num, S5⟩
            case measure => simp [intOf]; omega
      · obtain rfl : j = ss.length := by omega
        have S2 : Aside0 (Ow wA wr (.slice AO ss.length cO) ss.length (dom0 reach al ss.length)) := ⟨by have := S1.out; rwa [domF_full] at this⟩
        clear S1
        by_cases hz : ss.length = 0
        · have d0 : decide ((0 : Int) < (ss.length : Int)) = false := decide_eq_false (by omega)
          go_wp2
          have S5 : Aside0 (Ow wA wr (.slice AO ss.length cO) ss.length ((dom0 reach al ss.length).set 0 one)) := ⟨by
            have h := S2.out
            rwa [List.set_eq_of_length_le (by rw [dom0_len]; omega)]⟩
          refine wp_label ?_
          rename_i hK
          refine hK _ _ ?_
          exact PASS.out (k, _) _ _ ⟨wA, AR, cR, AP, cP, _, cO, HBA, HRR, HRP, S5, H6, dom_frame _ _ _ _ _ _ _ _ _ _ _ _ _ _ _ _ _ _ _ _ _ _ _ _ _ _ _ _ _ _ _ _ _ _ _ _ _ _ _ _ _ _ _ _ _ _ _ _ _ _ _ _ _ _ _ _ _ _ _ _ _ _ _ _ _ _ _ _ _ _ _ _ _ _ _ _ _ _ _ _ _ _ _ _ _ _ _ _ _ _ _ _ _ _ _ _ _ _ _ _ _⟩
        · have d0 : decide ((0 : Int) < (ss.length : Int)) = true := decide_eq_true (by omega)
          obtain ⟨gO, cO', eO, _⟩ := Kd.R_form S2.out.ro (by have := S2.out.lo; omega)
          have aO : AO = some ⟨gO, 0, none⟩ := by injection eO
          clear eO
          subst aO
          go_wp2_with (first | ((with_reducible refine gate_dst (N := 48) rfl ?_); refine Kd.R_lit (Kd.int .i64) _ 3 ?hg (N := 48) ?hd (w0 := wr) (xs := ([0] : List Int)) (inner := [.int .i64 0]) (ok := fun _ => True) (okp := fun _ => True) ?hr ?hp (fun _ hk => hk) trivial (Below.refl _ _) (Nat.le_refl _) (by simp) ?_; (case hd => rfl); (case hg => rfl); (case hr => first | (go_simp; done) | (go_simp; rfl)); (case hp => exact (Reps.one (show Kd.M (Kd.int .i64) _ _ _ 0 [.int .i64 0] from rfl) (Reps.none _ _))); intro vL wl ho hb hg_ hnew_; obtain ⟨AL_, cL_, eL_, lL_, rL_⟩ := Kd.R_reads ho; subst eL_; have HRL := Aside0.mk rL_; have HCL := Aside0.mk lL_; have S3 := Aside0.mk (S2.out.later hb); clear hg_ hnew_ ho hb rL_ lL_ S2) | (go_at_call 34; refine (bits_With.calls k 0 _ _ [0] one _ HRL.out HCL.out H5.out).mono ?_; rintro e wq ⟨rfl, hd⟩; have S4 := Aside0.mk (S3.out.later hd.below); clear S3 hd; obtain ⟨hx0, hf0⟩ := S4.out.cell rfl 0 (by omega)) | ((with_reducible refine gate_store (t := 33) (p := 50) rfl ?_); refine store_event (w1 := (wq.setCell ⟨gO, 0, none⟩ (.int .u64 one))) rfl rfl rfl ?hr ?_; (case hr => first | (go_simp; done) | (go_simp; rfl)); intro w5 hS; have S5 : Aside0 (Ow wA w5 (.slice (some ⟨gO, 0, none⟩) ss.length cO) ss.length ((dom0 reach al ss.length).set 0 one)) := ⟨by rw [hS]; have h := S4.out.put rfl (0 : Int) one; (first | rw [Int.toNat_natCast] at h | skip); exact h⟩; clear hS; clear S4 hx0 hf0))
          refine wp_label ?_
          rename_i hK
          refine hK _ _ ?_
          exact PASS.out (k, _) _ _ ⟨wA, AR, cR, AP, cP, _, cO, HBA, HRR, HRP, S5, H6, dom_frame _ _ _ _ _ _ _ _ _ _ _ _ _ _ _ _ _ _ _ _ _ _ _ _ _ _ _ _ _ _ _ _ _ _ _ _ _ _ _ _ _ _ _ _ _ _ _ _ _ _ _ _ _ _ _ _ _ _ _ _ _ _ _ _ _ _ _ _ _ _ _ _ _ _ _ _ _ _ _ _ _ _ _ _ _ _ _ _ _ _ _ _ _ _ _ _ _ _ _ _ _⟩
  case pass =>
    rintro s a' w' ⟨wA, AR, cR, AP, cP, AO, cO, HBA, HRR, HRP, S0, HD, U, rfl⟩
    obtain ⟨d, out⟩ := s
    cases d with
    | zero => exact absurd HD.out (by simp [domsR])
    | succ d =>
    obtain ⟨⟨b, ro⟩, hp, hd⟩ := Option.bind_eq_some_iff.1 (show ((domPass k reach preds al (ss.length - 1) 1 out).bind fun r => if r.1 = true then domsR k reach preds al ss.length d r.2 else some r.2) = some res from HD.out)
    have HP0 := Aside0.mk hp
    have HD1 := Aside0.mk hd
    clear hp hd HD
    go_wp2
    go_loopw [8] (fun v8 wr => ∃ j : Nat, 1 ≤ j ∧ (j ≤ ss.length ∨ j = 1) ∧ v8 = .int .i64 (j : Int) ∧ Aside0 (Ow wA wr (.slice AO ss.length cO) ss.length out) ∧ Aside0 (domPass k reach preds al (ss.length - j) j out = some (b, ro))) (fun v8 _ => ss.length - (intOf v8).toNat)
    case atStart => exact ⟨1, Nat.le_refl _, .inr rfl, rfl, S0, HP0⟩
    case round =>
      clear S0 HP0
      obtain ⟨j, hj1, hj, rfl, S1, HP⟩ := hrel
      by_cases hlt : j < ss.length
      · obtain ⟨gO, cO', eO, _⟩ := Kd.R_form S1.out.ro (by have := S1.out.lo; omega)
        have aO : AO = some ⟨gO, 0, none⟩ := by injection eO
        clear eO
        subst aO
        have pj0 := eq_true (show (0 : Int) ≤ (j : Int) by omega)
        have pj1 := eq_true (show (j : Int) < (ss.length : Int) by omega)
        obtain ⟨adR, eR, _⟩ := at_Bool HRR.out j hlt
        subst eR
        have hb0 : wr.cell? (adR.add j) = some (.bool (reach.getD j false)) := by
          obtain ⟨ad2, e2, hq⟩ := at_Bool (Kd.C_below HRR.out S1.out.below) j hlt
          cases e2; exact hq
        have HLT := Aside0.mk hlt
        have hp := HP.out
        rw [show ss.length - j = (ss.length - (j + 1)) + 1 by omega] at hp
        unfold domPass at hp
        cases hre : reach.getD j false with
        | false =>
          rw [hre] at hb0
          rw [hre, if_neg (by decide)] at hp
          have HP2 := Aside0.mk hp
          clear hp hre HP
          go_wp2
          go_roundw
          case rel => exact ⟨j + 1, by omega, .inl (by omega), by go_num, S1, HP2⟩
          case measure => simp [intOf]; omega
        | true =>
          rw [hre] at hb0
          rw [hre, if_pos rfl] at hp
          obtain ⟨s1, hw, hp1⟩ := Option.bind_eq_some_iff.1 hp
          have HW := Aside0.mk hw
          have HP2 := Aside0.mk hp1
          clear hp hw hp1 hre HP
          obtain ⟨adP, Aq, cq, eP, hcp, hlq, hrq⟩ := at_L1 HRP.out (j : Int) (by omega) (by omega)
          subst eP
          have erow : rd_L1 preds (j : Int) = preds.getD j [] := by unfold rd_L1; rw [Int.toNat_natCast]
          rw [erow] at hlq hrq hcp
          rw [Int.toNat_natCast] at hcp
          have hin := inRows_get H3.out j
          have HIN : Aside0 (∀ q, q < (preds.getD j []).length → 0 ≤ (preds.getD j []).getD q 0 ∧ (preds.getD j []).getD q 0 < (ss.length : Int)) := ⟨fun q hq => hin q (by rw [L2.out]; exact HLT.out) hq⟩
          have hrl := inRows_len H3.out j (by rw [L2.out]; exact HLT.out)
          clear hin erow
          generalize preds.getD j [] = row at *
          have HRQ := Aside0.mk hrq
          have HCP := Aside0.mk hcp
          clear hrq hcp
          go_wp2_with (go_at_call 33; refine (bits_All.calls (ss.length : Int) al _ H4.out).mono ?_; rintro e wq ⟨rfl, hd⟩; have S2 := Aside0.mk (S1.out.later hd.below); clear S1 hd hb0; have hp0 := pw_cell_below S2.out.below HCP.out)
          clear hp0
          go_loopw [9, 68] (fun v9 v68 wr1 => ∃ q : Nat, q ≤ row.length ∧ v68 = .int .i64 (q : Int) ∧ v9 = .int .u64 (domS reach out al (row.take q)) ∧ Aside0 (Ow wA wr1 (.slice (some ⟨gO, 0, none⟩) ss.length cO) ss.length out)) (fun _ v68 _ => row.length - (intOf v68).toNat)
          case atStart => exact ⟨0, Nat.zero_le _, rfl, rfl, S2⟩
          case round =>
            clear S2
            obtain ⟨q, hq, rfl, rfl, S3⟩ := hrel
            by_cases hqlt : q < row.length
            · have pq0 := eq_true (show (0 : Int) ≤ (q : Int) by omega)
              have pq1 := eq_true (show (q : Int) < (row.length : Int) by omega)
              obtain ⟨hp0, hp1⟩ := HIN.out q hqlt
              have hstep := domS_snoc reach out al row q hqlt
              obtain ⟨adQ, eQ, hcq⟩ := at_Int (Kd.C_below HRQ.out S3.out.below) q hqlt
              subst eQ
              generalize row.getD q 0 = p at *
              obtain ⟨ad2, e2, hcr⟩ := at_Bool (Kd.C_below HRR.out S3.out.below) p.toNat (by omega)
              cases e2
              obtain ⟨hx0, hf0⟩ := S3.out.cell rfl p.toNat (by omega)
              rw [show ((p.toNat : Nat) : Int) = p by omega] at hx0
              have HST := Aside0.mk hstep
              have pp0 := eq_true hp0
              have pp1 := eq_true hp1
              clear hp0 hp1 hstep
              cases hrp : reach.getD p.toNat false with
              | false =>
                rw [hrp] at hcr
                have HST2 : Aside0 (domS reach out al (row.take (q + 1)) = domS reach out al (row.take q)) := ⟨by have := HST.out; rw [hrp, if_neg (by decide)] at this; exact this⟩
                clear hrp HST
                go_wp2
                go_roundw
                case rel => exact ⟨q + 1, by omega, by go_num, by rw [HST2.out], S3⟩
                case measure => simp [intOf]; omega
              | true =>
                rw [hrp] at hcr
                have HST2 : Aside0 (domS reach out al (row.take (q + 1)) = Go.bits .and .u64 (domS reach out al (row.take q)) (rd out p)) := ⟨by have := HST.out; rw [hrp, if_pos rfl] at this; exact this⟩
                clear hrp HST
                go_wp2
                go_roundw
                case rel => exact ⟨q + 1, by omega, by go_num, by rw [HST2.out], S3⟩
                case measure => simp [intOf]; omega
            · obtain rfl : q = row.length := by omega
              rw [List.take_length]
              obtain ⟨o, ho⟩ : ∃ o, rd out (j : Int) = o := ⟨_, rfl⟩
              have HO := Aside0.mk ho
              have hp2 := HP2.out
              rw [ho] at hp2
              clear ho
              by_cases he : s1 = o
              · rw [if_pos he] at hp2
                have HP3 := Aside0.mk hp2
                have HO2 : Aside0 (rd out (j : Int) = s1) := ⟨HO.out.trans he.symm⟩
                clear hp2 HP2 HO
                have HO := HO2
                clear he HO2
                have hne : (s1 != s1) = false := bne_self_eq_false _
                go_wp2_with (first | ((with_reducible refine gate_dst (N := 85) rfl ?_); refine Kd.R_lit (Kd.int .i64) _ 3 ?hg (N := 85) ?hd (w0 := wr) (xs := ([(j : Int)] : List Int)) (inner := [.int .i64 (j : Int)]) (ok := fun _ => True) (okp := fun _ => True) ?hr ?hp (fun _ hk => hk) trivial (Below.refl _ _) (Nat.le_refl _) (by simp) ?_; (case hd => rfl); (case hg => rfl); (case hr => first | (go_simp; done) | (go_simp; rfl)); (case hp => exact (Reps.one (show Kd.M (Kd.int .i64) _ _ _ (j : Int) [.int .i64 (j : Int)] from rfl) (Reps.none _ _))); intro vL wl ho hb hg_ hnew_; obtain ⟨AL_, cL_, eL_, lL_, rL_⟩ := Kd.R_reads ho; subst eL_; have HRL := Aside0.mk rL_; have HCL := Aside0.mk lL_; have S4 := Aside0.mk (S3.out.later hb); clear hg_ hnew_ ho hb rL_ lL_ S3) | (go_at_call 34; refine (bits_With.calls k (domS reach out al row) _ _ [(j : Int)] s1 _ HRL.out HCL.out HW.out).mono ?_; rintro e wz ⟨rfl, hd⟩; have S5 := Aside0.mk (S4.out.later hd.below); clear S4 hd; obtain ⟨hx0, hf0⟩ := S5.out.cell rfl j HLT.out; rw [HO.out] at hx0))
                go_roundw
                case rel => exact ⟨j + 1, by omega, .inl (by omega), by go_num, S5, HP3⟩
                case measure => simp [intOf]; omega
              · rw [if_neg he] at hp2
                obtain ⟨rfl, rfl⟩ := Prod.mk.inj (Option.some.inj hp2)
                clear hp2 HP2
                have HD2 : Aside0 (domsR k reach preds al ss.length d (out.set j s1) = some res) := ⟨by have := HD1.out; rwa [if_pos rfl] at this⟩
                have hne : (s1 != o) = true := bne_iff_ne.2 he
                have hde : decide (s1 = o) = false := decide_eq_false he
                clear he
                go_wp2_with (first | ((with_reducible refine gate_dst (N := 85) rfl ?_); refine Kd.R_lit (Kd.int .i64) _ 3 ?hg (N := 85) ?hd (w0 := wr) (xs := ([(j : Int)] : List Int)) (inner := [.int .i64 (j : Int)]) (ok := fun _ => True) (okp := fun _ => True) ?hr ?hp (fun _ hk => hk) trivial (Below.refl _ _) (Nat.le_refl _) (by simp) ?_; (case hd => rfl); (case hg => rfl); (case hr => first | (go_simp; done) | (go_simp; rfl)); (case hp => exact (Reps.one (show Kd.M (Kd.int .i64) _ _ _ (j : Int) [.int .i64 (j : Int)] from rfl) (Reps.none _ _))); intro vL wl ho hb hg_ hnew_; obtain ⟨AL_, cL_, eL_, lL_, rL_⟩ := Kd.R_reads ho; subst eL_; have HRL := Aside0.mk rL_; have HCL := Aside0.mk lL_; have S4 := Aside0.mk (S3.out.later hb); clear hg_ hnew_ ho hb rL_ lL_ S3) | (go_at_call 34; refine (bits_With.calls k (domS reach out al row) _ _ [(j : Int)] s1 _ HRL.out HCL.out HW.out).mono ?_; rintro e wz ⟨rfl, hd⟩; have S5 := Aside0.mk (S4.out.later hd.below); clear S4 hd; obtain ⟨hx0, hf0⟩ := S5.out.cell rfl j HLT.out; rw [HO.out] at hx0) | ((with_reducible refine gate_store (t := 33) (p := 96) rfl ?_); refine store_event (w1 := (wz.setCell ⟨gO, j, none⟩ (.int .u64 s1))) rfl rfl rfl ?hr ?_; (case hr => first | (go_simp; done) | (go_simp; rfl)); intro w6 hS; have S6 : Aside0 (Ow wA w6 (.slice (some ⟨gO, 0, none⟩) ss.length cO) ss.length (out.set j s1)) := ⟨by rw [hS]; have h := S5.out.put rfl (j : Int) s1; (first | rw [Int.toNat_natCast] at h | skip); exact h⟩; clear hS; clear hx0 hf0 S5))
                refine wp_goto ?_
                exact And.intro rfl ⟨(d, out.set j s1), ⟨wA, some adR, cR, some adP, cP, _, cO, HBA, HRR, HRP, S6, HD2, dom_frame _ _ _ _ _ _ _ _ _ _ _ _ _ _ _ _ _ _ _ _ _ _ _ _ _ _ _ _ _ _ _ _ _ _ _ _ _ _ _ _ _ _ _ _ _ _ _ _ _ _ _ _ _ _ _ _ _ _ _ _ _ _ _ _ _ _ _ _ _ _ _ _ _ _ _ _ _ _ _ _ _ _ _ _ _ _ _ _ _ _ _ _ _ _ _ _ _ _ _ _ _⟩, Nat.lt_succ_self d⟩
      · have hp := HP.out
        rw [show ss.length - j = 0 by omega] at hp
        obtain ⟨rfl, rfl⟩ := Prod.mk.inj (Option.some.inj hp)
        have hd := HD1.out
        rw [if_neg (by decide)] at hd
        obtain rfl := Option.some.inj hd
        clear hp hd HP HD1
        go_wp2
        simp only [Exit.jump]
        go_ret
        exact ⟨_, rfl, Kd.R_lower S1.out.ro (below_size HBA.out), below_step HBA.out S1.out.below⟩
def slDelL_ren : Go.Shelf.Ren := ⟨fun | 10 => 35 | 6 => 42 | n => n, fun | 22 => 31 | 23 => 3 | 25 => 66 | 3 => 3 | 4 => 4 | 0 => 0 | n => n, fun | n => n⟩
theorem slDelL : Go.Proofs.SlLaysH.n10 Tryd.prog slDelL_ren := {
  mixed := by kernel_rfl
  f6 := ⟨Tryd.f42.name, by decide, Tryd.func42.trans (congrArg some (by kernel_rfl))⟩
  f10 := ⟨Tryd.f35.name, by decide, Tryd.func35.trans (congrArg some (by kernel_rfl))⟩
  t0 := Tryd.underlying0
  a0 := Tryd.isAgg0
  z0 := Tryd.sizeOf0
  v0 := Tryd.zeroValue0
  t3 := Tryd.underlying3
  a3 := Tryd.isAgg3
  z3 := Tryd.sizeOf3
  v3 := Tryd.zeroValue3
  t4 := Tryd.underlying4
  a4 := Tryd.isAgg4
  z4 := Tryd.sizeOf4
  v4 := Tryd.zeroValue4
  t22 := Tryd.underlying31
  a22 := Tryd.isAgg31
  z22 := Tryd.sizeOf31
  v22 := Tryd.zeroValue31
  a23 := Tryd.isAgg3
  z23 := Tryd.sizeOf3
  t25 := Tryd.underlying66
  a25 := Tryd.isAgg66
  z25 := Tryd.sizeOf66
  v25 := Tryd.zeroValue66 }
/-! slices.DeleteFunc over a row of places, by a predicate that is told at places alone. -/
abbrev Pl (n : Nat) := { x : Int // 0 ≤ x ∧ x < (n : Int) }
def encP {n : Nat} (x : Pl n) : Value := .int .i64 x.1
theorem putRow_heap_ne {α : Type} [Inhabited α] (enc : α → Value) (w : World) (q blk off : Nat) (d : Array α) (k : Nat) (h : k ≠ blk) : (Go.Sort.putRow enc (Go.Sort.ahead w q) blk off d).heap[k]? = w.heap[k]? := by
  unfold Go.Sort.putRow Go.Sort.mapBlock Go.Sort.ahead
  simp only [Array.getElem?_modify]
  rw [if_neg (fun e => h e.symm)]
theorem putRow_heap_eq {α : Type} [Inhabited α] (enc : α → Value) (w : World) (q blk : Nat) (d : Array α) {cur : Array Value} {e : TypeId} (h : w.heap[blk]? = some (.cells cur e (0, 0))) : (Go.Sort.putRow enc (Go.Sort.ahead w q) blk 0 d).heap[blk]? = some (.cells (Go.Sort.putCells enc 0 d cur) e (0, 0)) := by
  unfold Go.Sort.putRow Go.Sort.mapBlock Go.Sort.ahead
  simp only [Array.getElem?_modify, if_true, h, Option.map_some, Go.Sort.onCells]
theorem putCells_size {α : Type} [Inhabited α] (enc : α → Value) (d : Array α) (cur : Array Value) : (Go.Sort.putCells enc 0 d cur).size = cur.size := by unfold Go.Sort.putCells; simp
theorem putCells_take {α : Type} [Inhabited α] (enc : α → Value) (l t : List α) (cur : Array Value) (h : l.length + t.length ≤ cur.size) : (Go.Sort.putCells enc 0 (l ++ t).toArray cur).toList.take l.length = l.map enc := by
  apply List.ext_getElem?
  intro i
  rw [List.getElem?_take]
  by_cases hi : i < l.length
  · rw [if_pos hi, List.getElem?_map, Array.getElem?_toList]
    unfold Go.Sort.putCells
    rw [Array.getElem?_mapIdx, Array.getElem?_eq_getElem (by omega), List.getElem?_eq_getElem hi]
    simp only [Option.map_some]
    rw [if_pos (by constructor; omega; simp; omega)]
    rw [getElem!_pos _ _ (by simp; omega)]
    simp [List.getElem_append_left hi]
  · rw [if_neg hi, List.getElem?_eq_none (by simpa using hi)]
theorem below_sort {α : Type} [Inhabited α] (enc : α → Value) (w : World) (B blk off m : Nat) (dk : Array α) (os : Array Obj) (hB : B ≤ w.heap.size) (hb : B ≤ blk) : Below B w (Go.Proofs.sortWorld enc w blk off m dk os) := by
  unfold Go.Proofs.sortWorld
  have h1 : Below B w (Go.Sort.putRow enc (Go.Sort.ahead w m) blk off dk) := ⟨rfl, rfl, rfl, by rw [Go.Sort.size_putRow]; exact Nat.le_refl _, fun k hk => putRow_heap_ne enc w m blk off dk k (by omega)⟩
  refine h1.trans ⟨rfl, rfl, rfl, ?_, fun j hj => ?_⟩
  · show _ ≤ (_ ++ os).size
    rw [Array.size_append]; omega
  · refine Go.Sort.heap_grow_old _ os ?_
    rw [Go.Sort.size_putRow]
    exact Nat.lt_of_lt_of_le hj hB
set_option maxHeartbeats 1000000 in
theorem delete_any {n : Nat} (hn : 0 < n) {w : World} {base : Nat} {ok : Nat → Prop} {v : Value} {lS : List (Pl n)} (hR : Kd.R (Kd.int .i64) 3 w base ok v (lS.map (·.1))) (p : Int → Bool) (caps : Array Value) (wB : World)
    (hG : ∀ W x, 0 ≤ x → x < (n : Int) → Below wB.heap.size wB W → Go.Proofs.FnGives Tryd.prog 37 caps #[.int .i64 x] (.bool (p x)) W) (hb : Below wB.heap.size wB w) (hown : ∀ k, v.ownBlock = some k → wB.heap.size ≤ k) (hsome : v.ownBlock.isSome = true) :
    Calls Tryd.prog 35 #[v, .func (.func 37) #[] caps] w fun e w' => ∃ v', e = .returned v' ∧ Kd.R (Kd.int .i64) 3 w' base ok v' ((lS.map (·.1)).filter fun x => !p x) ∧ w.grownBy w' v.ownBlock ∧ v'.ownBlock = v.ownBlock := by
  haveI : Inhabited (Pl n) := ⟨⟨0, by omega, by omega⟩⟩
  obtain ⟨hok, inner, hown', hr⟩ := hR
  rcases hown'.2 with ⟨e1, _⟩ | ⟨g, cap, cur, rfl, hg, hh, hnc, hcm, hcs, htake⟩
  · rw [e1] at hsome; simp [Value.ownBlock] at hsome
  have hlen : (lS.map (·.1)).length = lS.length := List.length_map _
  have hsz : lS.length ≤ 9223372036854775807 := by rw [← hlen]; exact Nat.le_trans hnc hcm
  have hgl : g < w.heap.size := (Array.getElem?_eq_some_iff.1 hh).1
  have hgB : wB.heap.size ≤ g := hown g rfl
  have hR' : Kd.R (Kd.int .i64) 3 w base ok (.slice (some ⟨g, 0, none⟩) (lS.map (·.1)).length cap) (lS.map (·.1)) := ⟨hok, inner, hown', hr⟩
  have hH : Go.Sort.Holds (encP (n := n)) w g 0 lS.toArray := fun j hj => by
    have hj' : j < lS.length := by simpa using hj
    obtain ⟨h1, h2⟩ := Kd.R_celln (0 : Int) hR' (j : Int) (by omega) (by rw [hlen]; omega)
    rw [Int.toNat_natCast] at h1 h2
    rw [Nat.zero_add]
    refine ⟨h1.trans ?_, h2⟩
    rw [getElem!_pos _ _ (by simpa using hj)]
    unfold rdOf encP
    rw [Int.toNat_natCast, List.getD_eq_getElem?_getD, List.getElem?_map, List.getElem?_eq_getElem hj']
    simp
  have eg : ∀ args w, (callFunc 37 args).run Tryd.prog w = .ok (.enter 37 args) w := enters_of Tryd.func37 (by kernel_rfl) rfl
  have hat : Go.Proofs.PredAt Tryd.prog 37 caps (encP (n := n)) (fun x => p x.1) w := fun W x hb2 => hG W x.1 x.2.1 x.2.2 (hb.trans (hb2.mono hb.size))
  have hov : Go.Proofs.PredOver Tryd.prog 37 caps (encP (n := n)) (fun x => p x.1) g 0 lS.toArray.size w := fun m os dk x _ => hG _ x.1 x.2.1 x.2.2 (hb.trans (below_sort encP w wB.heap.size g 0 m dk os hb.size hgB))
  have hcon := Go.Proofs.AnyE.slices_DeleteFunc slDelL (encP (n := n)) (fun _ => rfl) (fun x => p x.1) 37 caps eg ⟨0, by omega, by omega⟩ Tryd.zeroValue3 g 0 cap lS.toArray w hat hov hH (by simpa using hsz) (by simpa using hnc)
  change Calls Tryd.prog 35 _ _ _ at hcon
  simp only [List.size_toArray] at hcon
  rw [hlen]
  refine hcon.mono ?_
  rintro e w' ⟨rfl, q, rfl⟩
  have hmap : ((lS.map (·.1)).filter fun x => !p x) = (lS.filter fun x => !p x.1).map (·.1) := by rw [List.filter_map]; rfl
  rw [hmap]
  have hfl : (lS.filter fun x => !p x.1).length ≤ lS.length := List.length_filter_le _ _
  have hlen2 : ((lS.filter fun x => !p x.1).map (·.1)).length = (lS.filter fun x => !p x.1).length := List.length_map _
  refine ⟨_, rfl, ⟨hok, ((lS.filter fun x => !p x.1).map (·.1)).map (Value.int .i64), ⟨by rw [List.length_map]; exact (Nat.mul_one _).symm, .inr ⟨g, cap, _, by rw [hlen2], hg, putRow_heap_eq _ _ _ _ _ hh, by omega, hcm, by rw [putCells_size]; exact hcs, ?_⟩⟩, ?_⟩, ⟨rfl, rfl, rfl, ?_, fun k hk hk2 => putRow_heap_ne _ _ _ _ _ _ _ (fun e => hk2 (by rw [e]; rfl))⟩, rfl⟩
  · show List.take (((lS.filter fun x => !p x.1).map (·.1)).length * 1) _ = _
    rw [Nat.mul_one, hlen2, List.map_map]
    exact putCells_take _ _ _ _ (by rw [List.length_replicate]; have : cur.size = cap := hcs.trans (Nat.mul_one _)
                                    omega)
  · refine ⟨by rw [List.length_map]; exact (Nat.mul_one _).symm, fun j p hp => ?_⟩
    show List.take 1 (List.drop (j * 1) _) = [Value.int .i64 p]
    rw [Nat.mul_one]
    obtain ⟨hj, rfl⟩ := List.getElem?_eq_some_iff.1 hp
    rw [← List.getElem_cons_drop (by rw [List.length_map]; exact hj)]
    simp
  · show w.heap.size ≤ (Go.Sort.putRow _ _ _ _ _).heap.size
    rw [Go.Sort.size_putRow]
    exact Nat.le_refl _
theorem indexNil (w : World) (fv : Value) : Calls Tryd.prog 42 #[.slice none 0 0, fv] w fun e w' => e = .returned (.int .i64 (-1)) ∧ w = w' := by
  go_enter Tryd.func42, Tryd.ntmps42
  go_wp2
  go_loopw [8] (fun v8 wr => v8 = .int .i64 0 ∧ Aside0 (w = wr)) (fun _ _ => 0)
  case atStart => exact ⟨rfl, ⟨rfl⟩⟩
  case round =>
    obtain ⟨rfl, HW⟩ := hrel
    go_wp2
    go_ret
    exact ⟨rfl, HW.out⟩
theorem deleteNil (w : World) (fv : Value) : Calls Tryd.prog 35 #[.slice none 0 0, fv] w fun e w' => e = .returned (.slice none 0 0) ∧ w = w' := by
  go_enter Tryd.func35, Tryd.ntmps35
  go_wp2_with (go_at_call 42; refine (indexNil _ _).mono ?_; rintro e w' ⟨rfl, rfl⟩)
  go_ret
  exact ⟨rfl, rfl⟩
theorem delete_all {n : Nat} (hn : 0 < n) {w : World} {base : Nat} {ok : Nat → Prop} {v : Value} {l : List Int} (hl : ∀ x ∈ l, 0 ≤ x ∧ x < (n : Int)) (hR : Kd.R (Kd.int .i64) 3 w base ok v l) (p : Int → Bool) (caps : Array Value) (wB : World)
    (hG : ∀ W x, 0 ≤ x → x < (n : Int) → Below wB.heap.size wB W → Go.Proofs.FnGives Tryd.prog 37 caps #[.int .i64 x] (.bool (p x)) W) (hb : Below wB.heap.size wB w) (hown : ∀ k, v.ownBlock = some k → wB.heap.size ≤ k) :
    Calls Tryd.prog 35 #[v, .func (.func 37) #[] caps] w fun e w' => ∃ v', e = .returned v' ∧ Kd.R (Kd.int .i64) 3 w' base ok v' (l.filter fun x => !p x) ∧ w.grownBy w' v.ownBlock ∧ v'.ownBlock = v.ownBlock := by
  by_cases hs : v.ownBlock.isSome = true
  · obtain ⟨lS, rfl⟩ : ∃ lS : List (Pl n), lS.map (·.1) = l := ⟨l.pmap (fun x h => ⟨x, h⟩) hl, by rw [List.map_pmap]; simp⟩
    exact delete_any hn hR p caps wB hG hb hown hs
  · have hv : v = .slice none 0 0 ∧ l = [] := by
      obtain ⟨_, inner, hown', _⟩ := hR
      rcases hown'.2 with ⟨e1, e2⟩ | ⟨g, cap, cur, rfl, _⟩
      · exact ⟨e1, List.eq_nil_of_length_eq_zero e2⟩
      · exact absurd rfl hs
    obtain ⟨rfl, rfl⟩ := hv
    refine (deleteNil w _).mono ?_
    rintro e w' ⟨rfl, rfl⟩
    exact ⟨_, rfl, Kd.R_nil _ _ _ _ _, ⟨rfl, rfl, rfl, Nat.le_refl _, fun _ _ _ => rfl⟩, rfl⟩
set_option maxHeartbeats 1000000 in
set_option maxRecDepth 100000 in
theorem cloneI_any (A : Option Addr) (c : Nat) (l : List Int) (w : World) (hr : Kd.C (Kd.int .i64) w A l.length l) (hc : l.length ≤ c) (hl : l.length ≤ 1000000) :
    Calls Tryd.prog 36 #[.slice A l.length c] w fun e w' => ∃ v, e = .returned v ∧ Kd.R (Kd.int .i64) 3 w' w.heap.size (fun _ => True) v l ∧ Below w.heap.size w w' := by
  cases A with
  | none =>
    have h0 : l = [] := by
      cases l with
      | nil => rfl
      | cons x t =>
        obtain ⟨ad, _, e, _⟩ := Kd.C_get hr (0 : Int) (0 : Int) (by omega) (by rw [List.length_cons]; omega)
        cases e
    subst h0
    have hq : ∀ (w : World) (a : Option Addr) (n c n' c' : Nat), (binOp .eql 31 (.slice a n c) (.slice none n' c')).run Tryd.prog w = .ok (.bool a.isNone) w := fun w a n c n' c' => Lib.run_eql_slice_nil w _ _ a n c n' c' Tryd.underlying31
    go_enter Tryd.func36, Tryd.ntmps36
    go_wp2
    go_ret
    exact ⟨_, rfl, Kd.R_nil _ _ _ _ _, Below.refl _ _⟩
  | some ad =>
    have HR := Aside0.mk hr
    have HB := Aside0.mk (Below.refl w.heap.size w)
    clear hr
    have hq : ∀ (w : World) (a : Option Addr) (n c n' c' : Nat), (binOp .eql 31 (.slice a n c) (.slice none n' c')).run Tryd.prog w = .ok (.bool a.isNone) w := fun w a n c n' c' => Lib.run_eql_slice_nil w _ _ a n c n' c' Tryd.underlying31
    go_enter Tryd.func36, Tryd.ntmps36
    go_wp2_with (((with_reducible refine gate_builtin (b := .append) (xs := #[.tmp 5, .tmp 6]) rfl ?_); at_builtin; refine Kd.R_append_rows (Kd.int .i64) (w0 := w) w.heap.size rfl (.tmp 5) (.tmp 6) 31 3 (.int .i64 0) 8 rfl Tryd.underlying31 info3 rfl (by decide) (by omega) (.slice (some ⟨w.heap.size, 0, none⟩) 0 0) ([] : List Int) l _ _ _ (fun _ => True) (fun _ => False) rfl rfl ?aO ?aR (fun _ _ h => h) (fun _ h => h.elim) ?aF ?aB ?aS ?aL ?_; (case aO => exact ⟨fun _ _ => trivial, OwnRow.lit w w.heap.size (Reps.none _ _) (Nat.le_refl _) (by decide)⟩); (case aR => exact Kd.C_alloc HR.out _); (case aF => exact (fun _ _ => trivial)); (case aB => exact below_alloc HB.out _); (case aS => exact below_size (below_alloc HB.out _)); (case aL => simp; omega); intro v1 w1 ho hb hg hat; have HO := Aside0.mk ho; have HB1 := Aside0.mk hb; clear ho hb hg hat))
    go_ret
    exact ⟨_, rfl, HO.out, HB1.out⟩
/-! (*graph).backs: what leads back to a head. -/
def hasI (a i : Int) : Bool := (bits_Has.f a i).getD false
theorem bit_total (i : Int) : ∃ v, bits_bit.f i = some v := by
  unfold bits_bit.f
  by_cases h : i < 0
  · exact ⟨_, if_pos h⟩
  by_cases h2 : i ≥ 64
  · exact ⟨_, by rw [if_neg h, if_pos h2]⟩
  · exact ⟨_, by rw [if_neg h, if_neg h2, if_pos (by omega)]⟩
theorem hasI_spec (a i : Int) : bits_Has.f a i = some (hasI a i) := by
  unfold hasI bits_Has.f
  obtain ⟨v, hv⟩ := bit_total i
  rw [hv]
  rfl
def backB (reach : List Bool) (doms : List Int) (h t : Int) : Bool := !reach.getD t.toNat false || !hasI (rd doms t) h
theorem at_U64 {w : World} {A : Option Addr} {n : Nat} {xs : List Int} (h : Kd.C (Kd.int .u64) w A n xs) (i : Nat) (h1 : i < n) : ∃ ad, A = some ad ∧ w.cell? (ad.add i) = some (.int .u64 (xs.getD i 0)) := by
  obtain ⟨ad, c, e, _, hK, hc0⟩ := Kd.C_get h (0 : Int) (i : Int) (by omega) (by omega)
  have hc : ∀ j u, c[j]? = some u → w.cell? (ad.add ((i : Int).toNat * 1 + j)) = some u := hc0
  obtain rfl : c = [.int .u64 (rdOf 0 xs (i : Int))] := hK
  refine ⟨ad, e, ?_⟩
  have hq := hc 0 _ rfl
  rw [Nat.mul_one, Nat.add_zero, Int.toNat_natCast] at hq
  rw [hq]
  unfold rdOf
  rw [Int.toNat_natCast]
/-- The graph that is looked at, in memory: its block, and the rows that it names. -/
structure Gr (w : World) (gb n : Nat) (ss preds : List (List Int)) (doms : List Int) (reach : List Bool) (AS AP AD AR : Option Addr) (cS cP cD cR : Nat) : Prop where
  blk : w.heap[gb]? = some (.cells #[.slice AS n cS, .slice AP n cP, .slice AD n cD, .slice AR n cR] 51 (0, 0))
  rp : Kd.C (Kd.slice 3 (Kd.int .i64)) w AP n preds
  rd_ : Kd.C (Kd.int .u64) w AD n doms
  rr : Kd.C Kd.bool w AR n reach
theorem Gr.later {w w' : World} {gb n : Nat} {ss preds : List (List Int)} {doms : List Int} {reach : List Bool} {AS AP AD AR : Option Addr} {cS cP cD cR : Nat} (h : Gr w gb n ss preds doms reach AS AP AD AR cS cP cD cR) (hb : Below w.heap.size w w') : Gr w' gb n ss preds doms reach AS AP AD AR cS cP cD cR :=
  ⟨blk_below h.blk hb, Kd.C_below h.rp hb, Kd.C_below h.rd_ hb, Kd.C_below h.rr hb⟩
section
variable {w : World} {gb n : Nat} {ss preds : List (List Int)} {doms : List Int} {reach : List Bool} {AS AP AD AR : Option Addr} {cS cP cD cR : Nat}
theorem Gr.c1 (h : Gr w gb n ss preds doms reach AS AP AD AR cS cP cD cR) : w.cell? ⟨gb, 1, none⟩ = some (.slice AP n cP) := (blk_cell h.blk 1).trans rfl
theorem Gr.c2 (h : Gr w gb n ss preds doms reach AS AP AD AR cS cP cD cR) : w.cell? ⟨gb, 2, none⟩ = some (.slice AD n cD) := (blk_cell h.blk 2).trans rfl
theorem Gr.c3 (h : Gr w gb n ss preds doms reach AS AP AD AR cS cP cD cR) : w.cell? ⟨gb, 3, none⟩ = some (.slice AR n cR) := (blk_cell h.blk 3).trans rfl
end
set_option maxHeartbeats 2000000 in
set_option maxRecDepth 100000 in
theorem back1_any (W : World) (bg bh gb n : Nat) (h x : Int) (ss preds : List (List Int)) (doms : List Int) (reach : List Bool) (AS AP AD AR : Option Addr) (cS cP cD cR : Nat) (hg : Gr W gb n ss preds doms reach AS AP AD AR cS cP cD cR)
    (hbg : W.cell? ⟨bg, 0, none⟩ = some (.pointer (some ⟨gb, 0, none⟩))) (hbh : W.cell? ⟨bh, 0, none⟩ = some (.int .i64 h)) (h0 : 0 ≤ x) (h1 : x < (n : Int)) :
    Calls Tryd.prog 37 #[.int .i64 x, .pointer (some ⟨bg, 0, none⟩), .pointer (some ⟨bh, 0, none⟩)] W fun e w' => e = .returned (.bool (backB reach doms h x)) ∧ ∃ q, w' = W.drewN q := by
  have c2 := hg.c2
  have c3 := hg.c3
  obtain ⟨adD, eD, hd0⟩ := at_U64 hg.rd_ x.toNat (by omega)
  obtain ⟨adR, eR, hr0⟩ := at_Bool hg.rr x.toNat (by omega)
  have hd1 : W.cell? (adD.add x.toNat) = some (.int .u64 (rd doms x)) := hd0
  have HH := Aside0.mk (hasI_spec (rd doms x) h)
  subst eD eR
  have p0 := eq_true h0
  have p1 := eq_true h1
  unfold backB
  generalize hasI (rd doms x) h = b at HH ⊢
  generalize rd doms x = a at *
  clear hd0 hg h0 h1
  cases hrx : reach.getD x.toNat false with
  | false =>
    rw [hrx] at hr0
    clear hrx
    go_enter Tryd.func37, Tryd.ntmps37
    go_wp2
    go_quiet (first | (go_at_call 38; (with_reducible refine (bits_Has.calls a h b _ HH.out).mono ?_); rintro e w' ⟨rfl, ⟨nd, rfl⟩⟩; (try first | exact ⟨rfl, _, World.drewN_drewN _ _ _⟩ | exact ⟨rfl, _, Eq.trans (World.drewN_drewN _ _ _) (congrArg (World.drewN _) (Nat.add_assoc _ _ _))⟩)))
    try go_wp2
    go_ret
    exact ⟨rfl, ⟨_, rfl⟩⟩
  | true =>
    rw [hrx] at hr0
    clear hrx
    go_enter Tryd.func37, Tryd.ntmps37
    go_wp2
    go_quiet (first | (go_at_call 38; (with_reducible refine (bits_Has.calls a h b _ HH.out).mono ?_); rintro e w' ⟨rfl, ⟨nd, rfl⟩⟩; (try first | exact ⟨rfl, _, World.drewN_drewN _ _ _⟩ | exact ⟨rfl, _, Eq.trans (World.drewN_drewN _ _ _) (congrArg (World.drewN _) (Nat.add_assoc _ _ _))⟩)))
    try go_wp2
    go_ret
    exact ⟨rfl, ⟨_, rfl⟩⟩
def backsI (reach : List Bool) (doms : List Int) (preds : List (List Int)) (h : Int) : List Int := (preds.getD h.toNat []).filter fun x => !backB reach doms h x
theorem backT1 : rtab .any (opsOf Tryd.f23 1) = rtab .any (opsOf Tryd.f23 1) := rfl
def BackP (w : World) (l : List Int) (e : Ending) (w' : World) : Prop := ∃ v, e = .returned v ∧ Kd.R (Kd.int .i64) 3 w' w.heap.size (fun _ => True) v l ∧ Below w.heap.size w w'
set_option maxHeartbeats 2000000 in
set_option maxRecDepth 100000 in
theorem backs_any (w : World) (gb n : Nat) (h : Int) (ss preds : List (List Int)) (doms : List Int) (reach : List Bool) (AS AP AD AR : Option Addr) (cS cP cD cR : Nat) (hg : Gr w gb n ss preds doms reach AS AP AD AR cS cP cD cR) (h0 : 0 ≤ h) (h1 : h < (n : Int))
    (hin : ∀ x ∈ preds.getD h.toNat [], 0 ≤ x ∧ x < (n : Int)) (hlen : (preds.getD h.toNat []).length ≤ 1000000) :
    Calls Tryd.prog 23 #[.pointer (some ⟨gb, 0, none⟩), .int .i64 h] w (BackP w (backsI reach doms preds h)) := by
  obtain ⟨F, hF⟩ : ∃ F : Int → Bool, F = backB reach doms h := ⟨_, rfl⟩
  have HRES : Aside0 (backsI reach doms preds h = (preds.getD h.toNat []).filter fun x => !F x) := ⟨by rw [hF]; rfl⟩
  have HF := Aside0.mk hF
  clear hF
  obtain ⟨adP, Aq, cq, eP, hcp, hlq, hrq⟩ := at_L1 hg.rp h h0 h1
  subst eP
  have erow : rd_L1 preds h = preds.getD h.toNat [] := rfl
  rw [erow] at hlq hrq hcp
  have HRR := HRES
  clear HRES
  generalize preds.getD h.toNat [] = row at *
  have c1 := hg.c1
  have HG := Aside0.mk hg
  have HLQ := Aside0.mk hlq
  have HRQ := Aside0.mk hrq
  have HIN := Aside0.mk hin
  have HLEN := Aside0.mk hlen
  have p0 := eq_true h0
  have p1 := eq_true h1
  have hHN := Aside0.mk (show 0 < n by omega)
  rw [HRR.out]
  clear hg hlq hrq hin hlen erow
  go_enter Tryd.func23, Tryd.ntmps23
  go_wp2
  have hX1 := blk_below (blk_new w (.cells #[.pointer (some ⟨gb, 0, none⟩)] 49)) (below_alloc (Below.refl _ _) (.cells #[.int .i64 h] 3))
  have hX2 := blk_new (w.alloc (.cells #[.pointer (some ⟨gb, 0, none⟩)] 49)) (.cells #[.int .i64 h] 3)
  rw [show (w.alloc (.cells #[.pointer (some ⟨gb, 0, none⟩)] 49)).heap.size = w.heap.size + 1 by show (w.heap.push _).size = _; rw [Array.size_push]] at hX2
  have hB := below_alloc (below_alloc (Below.refl w.heap.size w) (.cells #[.pointer (some ⟨gb, 0, none⟩)] 49)) (.cells #[.int .i64 h] 3)
  generalize ((w.alloc _).alloc _) = wB at hX1 hX2 hB ⊢
  have HB := Aside0.mk hB
  have HC0 : Aside0 (wB.cell? ⟨w.heap.size, 0, none⟩ = some (.pointer (some ⟨gb, 0, none⟩))) := ⟨(blk_cell hX1 0).trans rfl⟩
  have HC1 : Aside0 (wB.cell? ⟨gb, 1, none⟩ = some (.slice (some adP) n cP)) := ⟨pw_cell_below hB c1⟩
  have HC2 : Aside0 (wB.cell? ⟨w.heap.size + 1, 0, none⟩ = some (.int .i64 h)) := ⟨(blk_cell hX2 0).trans rfl⟩
  have HC3 : Aside0 (wB.cell? (adP.add h.toNat) = some (.slice Aq row.length cq)) := ⟨pw_cell_below hB hcp⟩
  have HRQ2 : Aside0 (Kd.C (Kd.int .i64) wB Aq row.length row) := ⟨Kd.C_below HRQ.out hB⟩
  clear HRQ
  have HRQ := HRQ2
  have HGB := Aside0.mk (HG.out.later hB)
  have HGIV : Aside0 (∀ W x, 0 ≤ x → x < (n : Int) → Below wB.heap.size wB W → Go.Proofs.FnGives Tryd.prog 37 #[.pointer (some ⟨w.heap.size, 0, none⟩), .pointer (some ⟨w.heap.size + 1, 0, none⟩)] #[.int .i64 x] (.bool (F x)) W) := ⟨fun W x q0 q1 hb => by
    have hh := back1_any W w.heap.size (w.heap.size + 1) gb n h x ss preds doms reach AS (some adP) AD AR cS cP cD cR (HGB.out.later hb) (pw_cell_below hb HC0.out) (pw_cell_below hb HC2.out) q0 q1
    rw [HF.out]
    exact hh⟩
  clear hX1 hX2 hB c1 hcp HRQ2
  refine start_ (n := 11) (S := fun w' => Below wB.heap.size wB w') (ds := []) #[false, false, false, false, false, false, false, false, false, false, false] (by kernel_rfl) rfl rfl (below_drew (Below.refl _ _)) (fun hHeld => ?_)
  refine with_tab backT1 (fun HT_ => ?_)
  generalize wB.drew = wd at hHeld ⊢
  refine take_ (i := 0) (N := some 5) (v := ?_) (a' := ?_) #[true, false, false, false, false, false, false, false, false, false, false] rfl rfl (take_of HT_.out (by kernel_rfl)) (fun _ _ _ h => h) (Or.inl ⟨by rfl, ?_⟩) hHeld ?_ ?_
  rotate_left
  · intro w' hS'
    have hy0 := pw_cell_below hS' HC0.out
    go_simp
    with_reducible rfl
  rotate_left
  · (try simp only [Act.put, sT_, sZ_, sS_, i64_w, i32_w, u8q_]); rfl
  refine pure_ (i := 1) (N := some 6) (v := ?_) (a' := ?_) #[true, true, false, false, false, false, false, false, false, false, false] rfl rfl (any_of HT_.out (by kernel_rfl)) (fun _ _ _ h => h) (Or.inl ⟨by rfl, ?_⟩) ?_ ?_
  rotate_left
  · intro w'
    go_simp
    with_reducible rfl
  rotate_left
  · (try simp only [Act.put, sT_, sZ_, sS_, i64_w, i32_w, u8q_]); rfl
  refine pure_ (i := 2) (N := some 7) (v := ?_) (a' := ?_) #[true, true, true, false, false, false, false, false, false, false, false] rfl rfl (any_of HT_.out (by kernel_rfl)) (fun _ _ _ h => h) (Or.inl ⟨by rfl, ?_⟩) ?_ ?_
  rotate_left
  · intro w'
    go_simp
    with_reducible rfl
  rotate_left
  · (try simp only [Act.put, sT_, sZ_, sS_, i64_w, i32_w, u8q_]); rfl
  refine take_ (i := 3) (N := some 8) (v := ?_) (a' := ?_) #[true, true, true, true, false, false, false, false, false, false, false] rfl rfl (take_of HT_.out (by kernel_rfl)) (fun _ _ _ h => h) (Or.inl ⟨by rfl, ?_⟩) hHeld ?_ ?_
  rotate_left
  · intro w' hS'
    have hy0 := pw_cell_below hS' HC1.out
    go_simp
    with_reducible rfl
  rotate_left
  · (try simp only [Act.put, sT_, sZ_, sS_, i64_w, i32_w, u8q_]); rfl
  refine take_ (i := 4) (N := some 9) (v := ?_) (a' := ?_) #[true, true, true, true, true, false, false, false, false, false, false] rfl rfl (take_of HT_.out (by kernel_rfl)) (fun _ _ _ h => h) (Or.inl ⟨by rfl, ?_⟩) hHeld ?_ ?_
  rotate_left
  · intro w' hS'
    have hy0 := pw_cell_below hS' HC2.out
    go_simp
    with_reducible rfl
  rotate_left
  · (try simp only [Act.put, sT_, sZ_, sS_, i64_w, i32_w, u8q_]); rfl
  refine pure_ (i := 5) (N := some 10) (v := ?_) (a' := ?_) #[true, true, true, true, true, true, false, false, false, false, false] rfl rfl (any_of HT_.out (by kernel_rfl)) (fun _ _ _ h => h) (Or.inl ⟨by rfl, ?_⟩) ?_ ?_
  rotate_left
  · intro w'
    go_simp
    with_reducible rfl
  rotate_left
  · (try simp only [Act.put, sT_, sZ_, sS_, i64_w, i32_w, u8q_]); rfl
  refine take_ (i := 6) (N := some 11) (v := ?_) (a' := ?_) #[true, true, true, true, true, true, true, false, false, false, false] rfl rfl (take_of HT_.out (by kernel_rfl)) (fun _ _ _ h => h) (Or.inl ⟨by rfl, ?_⟩) hHeld ?_ ?_
  rotate_left
  · intro w' hS'
    have hy0 := pw_cell_below hS' HC3.out
    go_simp
    with_reducible rfl
  rotate_left
  · (try simp only [Act.put, sT_, sZ_, sS_, i64_w, i32_w, u8q_]); rfl
  refine pure_ (i := 8) (N := some 13) (v := ?_) (a' := ?_) #[true, true, true, true, true, true, true, false, true, false, false] rfl rfl (any_of HT_.out (by kernel_rfl)) (fun _ _ _ h => h) (Or.inl ⟨by rfl, ?_⟩) ?_ ?_
  rotate_left
  · intro w'
    go_simp
    with_reducible rfl
  rotate_left
  · (try simp only [Act.put, sT_, sZ_, sS_, i64_w, i32_w, u8q_]); rfl
  refine one_ (i := 7) (N := some 12) #[true, true, true, true, true, true, true, true, true, false, false] rfl rfl (one_of HT_.out (by kernel_rfl)) (by decide) (fun K hK => ?_)
  refine call_ 36 #[.slice Aq row.length cq] (by rfl) rfl ?hr ?_
  case hr => go_simp; try rfl
  refine (cloneI_any Aq cq row _ (Kd.C_below HRQ.out hHeld) HLQ.out HLEN.out).mono ?_
  rintro e w6 ⟨v1, rfl, ho, hb⟩
  have HO := Aside0.mk ho
  have HWD := Aside0.mk (below_size hHeld)
  have hb6 := below_step hHeld hb
  refine ⟨_, rfl, ?_⟩
  refine hK.out _ _ (hb6) (fun hHeld => ?_)
  clear hK K
  refine norm_ (a' := ?_) ?_ ?_
  rotate_left
  · show Act.put _ (some 12) _ = _
    simp only [Act.put, sT_, sZ_, sS_, i64_w, i32_w, u8q_]
    rfl
  clear hb6 hb ho
  refine one_ (i := 9) (N := some 14) #[true, true, true, true, true, true, true, true, true, true, false] rfl rfl (one_of HT_.out (by kernel_rfl)) (by decide) (fun K hK => ?_)
  refine call_ 35 #[v1, .func (.func 37) #[] #[.pointer (some ⟨w.heap.size, 0, none⟩), .pointer (some ⟨w.heap.size + 1, 0, none⟩)]] (by rfl) rfl ?hr ?_
  case hr => go_simp; try rfl
  refine (delete_all hHN.out HIN.out HO.out F _ wB HGIV.out hHeld (fun k hk => Nat.le_trans HWD.out (Kd.R_base HO.out k hk))).mono ?_
  rintro e w7 ⟨v2, rfl, ho2, hg2, hv2⟩
  refine ⟨_, rfl, ?_⟩
  have HO2 := Aside0.mk ho2
  have HB7 : Aside0 (Below wB.heap.size wB w7) := ⟨hHeld.grown hg2 (below_size hHeld) (fun k hk => Nat.le_trans HWD.out (Kd.R_base HO.out k hk))⟩
  clear hg2 ho2 hv2
  refine hK.out _ _ (HB7.out) (fun hHeld => ?_)
  clear hK K
  refine norm_ (a' := ?_) ?_ ?_
  rotate_left
  · show Act.put _ (some 14) _ = _
    simp only [Act.put, sT_, sZ_, sS_, i64_w, i32_w, u8q_]
    rfl
  refine pure_ (i := 10) (N := some 4) (v := ?_) (a' := ?_) #[true, true, true, true, true, true, true, true, true, true, true] rfl rfl (any_of HT_.out (by kernel_rfl)) (fun _ _ _ h => h) (Or.inl ⟨by rfl, ?_⟩) ?_ ?_
  rotate_left
  · intro w'
    go_simp
    with_reducible rfl
  rotate_left
  · (try simp only [Act.put, sT_, sZ_, sS_, i64_w, i32_w, u8q_]); rfl
  refine done_ (done_of HT_.out (by kernel_rfl)) ?_
  try go_wp2
  go_ret
  exact ⟨_, rfl, Kd.R_lower HO2.out (Nat.le_trans (below_size HB.out) HWD.out), below_step HB.out HB7.out⟩
/-! (*graph).body: what comes to some without going through a head. -/
def bodyR (kk : Nat) (reach : List Bool) (preds : List (List Int)) (n : Nat) : Nat → Int → List Int → Option Int
  | 0, _, _ => none
  | k + 1, s, l => if l.length = 0 then some s else if l.length ≤ 1000000 then (if 0 ≤ l.getD (l.length - 1) 0 ∧ l.getD (l.length - 1) 0 < (n : Int) then (if hasI s (l.getD (l.length - 1) 0) = true ∨ reach.getD (l.getD (l.length - 1) 0).toNat false = false then bodyR kk reach preds n k s (l.take (l.length - 1)) else (bits_With.f kk s [l.getD (l.length - 1) 0]).bind fun s' => bodyR kk reach preds n k s' (l.take (l.length - 1) ++ preds.getD (l.getD (l.length - 1) 0).toNat [])) else none) else none
theorem Gr.later2 {wB w' : World} {gb n : Nat} {ss preds : List (List Int)} {doms : List Int} {reach : List Bool} {AS AP AD AR : Option Addr} {cS cP cD cR : Nat} (h : Gr wB gb n ss preds doms reach AS AP AD AR cS cP cD cR) (hb : Below wB.heap.size wB w') : Gr w' gb n ss preds doms reach AS AP AD AR cS cP cD cR := h.later hb
/-- The row of what is left, and the world ahead of it. -/
structure Lf (wB w : World) (v : Value) (l : List Int) : Prop where
  rl : Kd.R (Kd.int .i64) 3 w wB.heap.size (fun _ => True) v l
  below : Below wB.heap.size wB w
theorem Lf.later {wB w w' : World} {v : Value} {l : List Int} (h : Lf wB w v l) (hb : Below w.heap.size w w') : Lf wB w' v l := ⟨Kd.R_below h.rl hb, below_step h.below hb⟩
def BodyP (wB : World) (r : Int) (e : Ending) (w' : World) : Prop := e = .returned (.int .u64 r) ∧ Below wB.heap.size wB w'
set_option maxHeartbeats 4000000 in
set_option maxRecDepth 100000 in
theorem body_any (wB w : World) (gb n : Nat) (h : Int) (v : Value) (l0 : List Int) (ss preds : List (List Int)) (doms : List Int) (reach : List Bool) (AS AP AD AR : Option Addr) (cS cP cD cR : Nat) (hg : Gr wB gb n ss preds doms reach AS AP AD AR cS cP cD cR)
    (h3 : inRows n preds = true) (hpl : preds.length = n) (hl : Lf wB w v l0) (kk k : Nat) (s0 r : Int) (hs0 : bits_With.f kk 0 [h] = some s0) (hr : bodyR kk reach preds n k s0 l0 = some r) :
    Calls Tryd.prog 25 #[.pointer (some ⟨gb, 0, none⟩), .int .i64 h, v] w (BodyP wB r) := by
  have HG := Aside0.mk hg
  have H3 := Aside0.mk h3
  have HPL := Aside0.mk hpl
  have S0 := Aside0.mk hl
  have HS := Aside0.mk hs0
  have HR := Aside0.mk hr
  obtain ⟨A0, c0, e0⟩ := Kd.R_slice hl.rl
  subst e0
  clear hg h3 hpl hl hs0 hr
  go_enter Tryd.func25, Tryd.ntmps25
  go_wp2_with (first | ((with_reducible refine gate_dst (N := 10) rfl ?_); refine Kd.R_lit (Kd.int .i64) _ 3 ?hg (N := 10) ?hd (w0 := w) (xs := ([h] : List Int)) (inner := [.int .i64 h]) (ok := fun _ => True) (okp := fun _ => True) ?hr ?hp (fun _ hk => hk) trivial (Below.refl _ _) (Nat.le_refl _) (by simp) ?_; (case hd => rfl); (case hg => rfl); (case hr => first | (go_simp; done) | (go_simp; rfl)); (case hp => exact (Reps.one (show Kd.M (Kd.int .i64) _ _ _ h [.int .i64 h] from rfl) (Reps.none _ _))); intro vL wl ho hb hg_ hnew_; obtain ⟨AL_, cL_, eL_, lL_, rL_⟩ := Kd.R_reads ho; subst eL_; have HRL := Aside0.mk rL_; have HCL := Aside0.mk lL_; have S1 := Aside0.mk (S0.out.later hb); clear hg_ hnew_ ho hb rL_ lL_) | (go_at_call 34; refine (bits_With.calls kk 0 _ _ [h] s0 _ HRL.out HCL.out HS.out).mono ?_; rintro e wz ⟨rfl, hd⟩; have S2 := Aside0.mk (S1.out.later hd.below); clear S1 hd))
  go_loopg [2, 7] k (fun kq v2 v7 w' => ∃ (s : Int) (l : List Int), v7 = .int .u64 s ∧ Aside0 (bodyR kk reach preds n kq s l = some r) ∧ Aside0 (Lf wB w' v2 l))
  case atStart => exact ⟨s0, l0, rfl, HR, S2⟩
  case round =>
    clear S2 HR HRL HCL S0
    obtain ⟨s, l, rfl, HR, S1⟩ := hrel
    obtain ⟨Al, cl, el⟩ := Kd.R_slice S1.out.rl
    subst el
    cases gk with
    | zero => exact absurd HR.out (by simp [bodyR])
    | succ k1 =>
    have hr := HR.out
    unfold bodyR at hr
    clear HR
    by_cases hl0 : l.length = 0
    · rw [if_pos hl0] at hr
      obtain rfl := Option.some.inj hr
      have d0 : decide ((0 : Int) < (l.length : Int)) = false := decide_eq_false (by omega)
      clear hr
      go_wp2
      go_ret
      exact ⟨rfl, S1.out.below⟩
    · rw [if_neg hl0] at hr
      have d0 : decide ((0 : Int) < (l.length : Int)) = true := decide_eq_true (by omega)
      by_cases hl1 : l.length ≤ 1000000
      case neg => rw [if_neg hl1] at hr; cases hr
      rw [if_pos hl1] at hr
      obtain ⟨m, hm⟩ : ∃ m, m = l.length - 1 := ⟨_, rfl⟩
      rw [← hm] at hr
      have hml : m < l.length := by omega
      obtain ⟨ad, ea, hi0⟩ := at_Int (Kd.R_reads' S1.out.rl).2.2 m hml
      subst ea
      obtain ⟨ji, hji⟩ : ∃ ji : Int, ji = (m : Int) := ⟨_, rfl⟩
      have ejm : ji.toNat = m := by omega
      have hw : IntKind.i64.wrap ((l.length : Int) - 1) = ji := by
        refine (i64_w _).trans ?_
        unfold wrap64; omega
      have hi0 : wr.cell? (ad.add ji.toNat) = some (.int .i64 (l.getD m 0)) := by rw [ejm]; exact hi0
      have p0 := eq_true (show (0 : Int) ≤ ji by omega)
      have p1 := eq_true (show ji < (l.length : Int) by omega)
      have q1 := eq_true (show ji ≤ (l.length : Int) by omega)
      obtain ⟨i0_, hi0_, _, hsz_, _⟩ := info_parts info3
      have hcut := cut_to (P := Tryd.prog) 31 3 .i64 Tryd.underlying31 hi0_ (some ad) l.length cl ji (by omega) (by omega) (Kd.R_reads' S1.out.rl).2.1
      have hrt := Kd.R_take (m := m) S1.out.rl (by omega)
      have hlt : (l.take m).length = m := by rw [List.length_take]; omega
      obtain ⟨y, hy⟩ : ∃ y, y = l.take m := ⟨_, rfl⟩
      rw [← hy] at hr hlt hrt
      have hyl : y.length ≤ 1000000 := by omega
      rw [← hlt] at hrt
      rw [show ji.toNat = y.length by omega] at hcut
      have S2 : Aside0 (Lf wB wr (.slice (some ad) y.length cl) y) := ⟨⟨hrt, S1.out.below⟩⟩
      have HYL := Aside0.mk hyl
      clear hji ejm hlt
      clear hrt hi0_ hsz_ hyl hy S1 hm
      generalize l.getD m 0 = i at *
      by_cases hin : 0 ≤ i ∧ i < (n : Int)
      case neg => rw [if_neg hin] at hr; cases hr
      rw [if_pos hin] at hr
      obtain ⟨hin0, hin1⟩ := hin
      have pi0 := eq_true hin0
      have pi1 := eq_true hin1
      have HI0 := Aside0.mk hin0
      have HI1 := Aside0.mk hin1
      have hgr := HG.out
      obtain ⟨adR, eR, _⟩ := at_Bool hgr.rr i.toNat (by omega)
      obtain ⟨adP, Aq, cq, eP, hcp, hlq, hrq⟩ := at_L1 hgr.rp i hin0 hin1
      subst eR eP
      have erow : rd_L1 preds i = preds.getD i.toNat [] := rfl
      rw [erow] at hlq hrq hcp
      have hrl := inRows_len H3.out i.toNat (by rw [HPL.out]; omega)
      have HCP := Aside0.mk hcp
      have HRQ := Aside0.mk hrq
      have HLQ := Aside0.mk hlq
      have HRL := Aside0.mk hrl
      generalize preds.getD i.toNat [] = row at *
      clear hcp hrq hlq hrl erow hgr hin0 hin1
      have HHAS := Aside0.mk (hasI_spec s i)
      cases hb : hasI s i with
      | true =>
        rw [hb] at hr HHAS
        rw [if_pos (Or.inl rfl)] at hr
        have HR := Aside0.mk hr
        clear hr hb
        go_wp2_with (go_at_call 38; refine (bits_Has.calls s i true _ HHAS.out).mono ?_; rintro e w5 ⟨rfl, hd⟩; have S3 := Aside0.mk (S2.out.later hd.below); clear S2 hd)
        go_roundg k1
        case measure => omega
        case rel => exact ⟨s, y, rfl, HR, S3⟩
      | false =>
        rw [hb] at hr HHAS
        cases hre : reach.getD i.toNat false with
        | false =>
          rw [hre, if_pos (Or.inr rfl)] at hr
          have HR := Aside0.mk hr
          have HRE := Aside0.mk hre
          clear hr hb hre
          go_wp2_with (go_at_call 38; refine (bits_Has.calls s i false _ HHAS.out).mono ?_; rintro e w5 ⟨rfl, hd⟩; have S3 := Aside0.mk (S2.out.later hd.below); clear S2 hd; have g5 := HG.out.later2 S3.out.below; have hc3 := g5.c3; have hb5 : w5.cell? (adR.add i.toNat) = some (.bool (reach.getD i.toNat false)) := (by obtain ⟨ad2, e2, hq⟩ := at_Bool g5.rr i.toNat (by have := HI0.out; have := HI1.out; omega); cases e2; exact hq); rw [HRE.out] at hb5; clear g5)
          go_roundg k1
          case measure => omega
          case rel => exact ⟨s, y, rfl, HR, S3⟩
        | true =>
          rw [hre, if_neg (by simp)] at hr
          obtain ⟨s1, hw1, hr1⟩ := Option.bind_eq_some_iff.1 hr
          have HR := Aside0.mk hr1
          have HW := Aside0.mk hw1
          have HRE := Aside0.mk hre
          clear hr hr1 hw1 hb hre
          go_wp2_with (first | (go_at_call 38; refine (bits_Has.calls s i false _ HHAS.out).mono ?_; rintro e w5 ⟨rfl, hd⟩; have S3 := Aside0.mk (S2.out.later hd.below); clear S2 hd; have g5 := HG.out.later2 S3.out.below; have hc3 := g5.c3; have hb5 : w5.cell? (adR.add i.toNat) = some (.bool (reach.getD i.toNat false)) := (by obtain ⟨ad2, e2, hq⟩ := at_Bool g5.rr i.toNat (by have := HI0.out; have := HI1.out; omega); cases e2; exact hq); rw [HRE.out] at hb5; clear g5) | ((with_reducible refine gate_dst (N := 41) rfl ?_); refine Kd.R_lit (Kd.int .i64) _ 3 ?hg (N := 41) ?hd (w0 := w5) (xs := ([i] : List Int)) (inner := [.int .i64 i]) (ok := fun _ => True) (okp := fun _ => True) ?hr ?hp (fun _ hk => hk) trivial (Below.refl _ _) (Nat.le_refl _) (by simp) ?_; (case hd => rfl); (case hg => rfl); (case hr => first | (go_simp; done) | (go_simp; rfl)); (case hp => exact (Reps.one (show Kd.M (Kd.int .i64) _ _ _ i [.int .i64 i] from rfl) (Reps.none _ _))); intro vL wl ho hb hg_ hnew_; obtain ⟨AL_, cL_, eL_, lL_, rL_⟩ := Kd.R_reads ho; subst eL_; have HRL_ := Aside0.mk rL_; have HCL := Aside0.mk lL_; have S4 := Aside0.mk (S3.out.later hb); have HRL2 := HRL_; clear HRL_; clear hb5 hc3 S3 hg_ hnew_ ho hb rL_ lL_) | (go_at_call 34; refine (bits_With.calls kk s _ _ [i] s1 _ HRL2.out HCL.out HW.out).mono ?_; rintro e wz ⟨rfl, hd⟩; have S5 := Aside0.mk (S4.out.later hd.below); clear S4 hd; have g2 := HG.out.later2 S5.out.below; have hc1 := g2.c1; have hcp := pw_cell_below S5.out.below HCP.out; clear g2) | ((with_reducible refine gate_builtin (b := .append) (xs := #[.tmp 43, .tmp 50]) rfl ?_); at_builtin; refine Kd.R_append_rows (Kd.int .i64) (w0 := wB) wB.heap.size rfl (.tmp 43) (.tmp 50) 31 3 (.int .i64 0) 8 rfl Tryd.underlying31 info3 rfl (by decide) (by omega) (.slice (some ad) y.length cl) y row _ _ _ (fun _ => True) (fun _ => False) rfl rfl ?aO ?aR (fun _ _ h => h) (fun _ h => h.elim) ?aF ?aB ?aS ?aL ?_; (case aO => exact S5.out.rl); (case aR => exact Kd.C_below HRQ.out S5.out.below); (case aF => exact (fun _ _ => trivial)); (case aB => exact S5.out.below); (case aS => exact below_size S5.out.below); (case aL => have := HYL.out; have := HRL.out; omega); intro v1 w1 ho hb hg hat; have S6 : Aside0 (Lf wB w1 v1 (y ++ row)) := ⟨⟨ho, hb⟩⟩; clear ho hb hg hat hc1 hcp))
          go_roundg k1
          case measure => omega
          case rel => exact ⟨s1, y ++ row, rfl, HR, S6⟩
/-! The functions, as the walks have them. -/
theorem domPass_mono (reach : List Bool) (preds : List (List Int)) (al : Int) (k : Nat) : ∀ (d i : Nat) (out : List Int), LeO (domPass k reach preds al d i out) (domPass (k + 1) reach preds al d i out)
  | 0, _, _ => LeO.refl _
  | d + 1, i, out => LeO.ite (LeO.bind (bits_With.mono _ _ k) (fun s => LeO.ite (domPass_mono reach preds al k d (i + 1) out) (LeO.refl _))) (domPass_mono reach preds al k d (i + 1) out)
theorem domsR_mono (reach : List Bool) (preds : List (List Int)) (al : Int) (n k : Nat) : ∀ (d : Nat) (out : List Int), LeO (domsR k reach preds al n d out) (domsR (k + 1) reach preds al n (d + 1) out)
  | 0, _ => fun r h => by cases h
  | d + 1, out => LeO.bind (domPass_mono reach preds al k (n - 1) 1 out) (fun r => LeO.ite (domsR_mono reach preds al n k d r.2) (LeO.refl _))
def okD (n : Nat) (reach : List Bool) (preds : List (List Int)) : Bool := decide (reach.length = n) && decide (preds.length = n) && inRows n preds
def cfg_Doms.f (k : Nat) (l0 : List (List Int)) : Option (List Int) := if l0.length ≤ 64 then ((cfg_Reach.f k l0).bind fun reach => (cfg_Preds.f k l0).bind fun preds => if okD l0.length reach preds = true then ((bits_All.f (l0.length : Int)).bind fun al => (bits_With.f k 0 [0]).bind fun one => domsR k reach preds al l0.length k ((dom0 reach al l0.length).set 0 one)) else none) else some []
theorem cfg_Doms.mono : ∀ a0 k, LeO (cfg_Doms.f k a0) (cfg_Doms.f (k + 1) a0) := by
  intro a0 k
  unfold cfg_Doms.f
  exact LeO.ite (LeO.bind (cfg_Reach.mono a0 k) (fun reach => LeO.bind (cfg_Preds.mono a0 k) (fun preds => LeO.ite (LeO.bind (LeO.refl _) (fun al => LeO.bind (bits_With.mono _ _ k) (fun one => domsR_mono reach preds al _ k k _))) (LeO.refl _)))) (LeO.refl _)
set_option maxRecDepth 100000 in
theorem doms_far (A : Option Addr) (c n : Nat) (w : World) (hn : ¬ n ≤ 64) : Calls Tryd.prog 21 #[.slice A n c] w (DomP w []) := by
  have dn : decide ((64 : Int) < (n : Int)) = true := decide_eq_true (by omega)
  clear hn
  go_enter Tryd.func21, Tryd.ntmps21
  go_wp2
  refine wp_scope_straight ?_
  go_wp2
  try rw [Exit.noGoto_ret]
  go_ret
  exact ⟨_, rfl, Kd.R_nil _ _ _ _ _, Below.refl _ _⟩
theorem cfg_Doms.calls (k : Nat) (A0 : Option Addr) (c0 : Nat) (l0 : List (List Int)) (r : List Int) (w : World) (hr0 : Kd.C (Kd.slice 3 (Kd.int .i64)) w A0 l0.length l0) (hc0 : l0.length ≤ c0) (h : cfg_Doms.f k l0 = some r) :
    Calls Tryd.prog 21 #[.slice A0 l0.length c0] w fun e w' => ∃ v0_ : Value, e = .returned (v0_) ∧ Kd.R (Kd.int .u64) 33 w' w.heap.size (fun _ => True) v0_ r ∧ Below w.heap.size w w' := by
  unfold cfg_Doms.f at h
  by_cases hn : l0.length ≤ 64
  · rw [if_pos hn] at h
    obtain ⟨reach, h1, h⟩ := Option.bind_eq_some_iff.1 h
    obtain ⟨preds, h2, h⟩ := Option.bind_eq_some_iff.1 h
    by_cases hok : okD l0.length reach preds = true
    · rw [if_pos hok] at h
      obtain ⟨al, h4, h⟩ := Option.bind_eq_some_iff.1 h
      obtain ⟨one, h5, h⟩ := Option.bind_eq_some_iff.1 h
      unfold okD at hok
      simp only [Bool.and_eq_true, decide_eq_true_eq] at hok
      exact doms_any A0 c0 l0 w hr0 hc0 hn k reach preds al one r h1 h2 hok.1.1 hok.1.2 hok.2 h4 h5 h
    · rw [if_neg hok] at h; cases h
  · rw [if_neg hn] at h
    cases h
    exact doms_far A0 c0 l0.length w hn
theorem bodyR_mono (reach : List Bool) (preds : List (List Int)) (n kk : Nat) : ∀ (k : Nat) (s : Int) (l : List Int), LeO (bodyR kk reach preds n k s l) (bodyR (kk + 1) reach preds n (k + 1) s l)
  | 0, _, _ => fun r h => by cases h
  | k + 1, s, l => LeO.ite (LeO.refl _) (LeO.ite (LeO.ite (LeO.ite (bodyR_mono reach preds n kk k _ _) (LeO.bind (bits_With.mono _ _ kk) (fun s' => bodyR_mono reach preds n kk k _ _))) (LeO.refl _)) (LeO.refl _))
def ofR (kk : Nat) (reach : List Bool) (doms : List Int) (preds : List (List Int)) (n : Nat) : Nat → Nat → List S35 → Option (List S35)
  | 0, _, out => some out
  | d + 1, h, out => if (backsI reach doms preds (h : Int)).length = 0 then ofR kk reach doms preds n d (h + 1) out else (bits_With.f kk 0 [(h : Int)]).bind fun s0 => (bodyR kk reach preds n kk s0 (backsI reach doms preds (h : Int))).bind fun b => (bits_List.f b).bind fun l => ofR kk reach doms preds n d (h + 1) (out ++ [(⟨(h : Int), l⟩ : S35)])
theorem ofR_mono (reach : List Bool) (doms : List Int) (preds : List (List Int)) (n kk : Nat) : ∀ (d h : Nat) (out : List S35), LeO (ofR kk reach doms preds n d h out) (ofR (kk + 1) reach doms preds n d h out)
  | 0, _, _ => LeO.refl _
  | d + 1, h, out => LeO.ite (ofR_mono reach doms preds n kk d _ _) (LeO.bind (bits_With.mono _ _ kk) (fun s0 => LeO.bind (bodyR_mono reach preds n kk kk s0 _) (fun b => LeO.bind (LeO.refl _) (fun l => ofR_mono reach doms preds n kk d _ _))))
def OfP (w : World) (r : List S35) (e : Ending) (w' : World) : Prop := ∃ v0_ : Value, e = .returned v0_ ∧ Kd.S k35 35 w' w.heap.size (fun _ => True) v0_ r ∧ Below w.heap.size w w'
set_option maxHeartbeats 4000000 in
set_option maxRecDepth 100000 in
theorem of_any (A : Option Addr) (c : Nat) (ss : List (List Int)) (w : World) (hr : Kd.C (Kd.slice 3 (Kd.int .i64)) w A ss.length ss) (hc : ss.length ≤ c) (hn : ss.length ≤ 64) (HT : It.TabOk w) (k : Nat) (reach : List Bool) (preds : List (List Int)) (doms : List Int) (res : List S35)
    (h1 : cfg_Preds.f k ss = some preds) (h2 : cfg_Doms.f k ss = some doms) (h3 : cfg_Reach.f k ss = some reach) (l1 : preds.length = ss.length) (l2 : doms.length = ss.length) (l3 : reach.length = ss.length) (hin : inRows ss.length preds = true)
    (hres : ofR k reach doms preds ss.length ss.length 0 [] = some res) : Calls Tryd.prog 9 #[.slice A ss.length c] w (OfP w res) := by
  have hu35 := Tryd.underlying35
  have hu51 := Tryd.underlying51
  have HR := Aside0.mk hr
  have HC := Aside0.mk hc
  have HTB := Aside0.mk HT
  have H1 := Aside0.mk h1
  have H2 := Aside0.mk h2
  have H3 := Aside0.mk h3
  have L1 := Aside0.mk l1
  have L2 := Aside0.mk l2
  have L3 := Aside0.mk l3
  have HIN := Aside0.mk hin
  have HRES := Aside0.mk hres
  have HN := Aside0.mk hn
  have dn : decide ((64 : Int) < (ss.length : Int)) = false := decide_eq_false (by omega)
  clear hr hc HT h1 h2 h3 l1 l2 l3 hin hres
  go_enter Tryd.func9, Tryd.ntmps9
  go_wp2_with (first | (go_at_call 20; refine (cfg_Preds.calls k _ _ _ preds _ HR.out HC.out H1.out).mono ?_; rintro e w1 ⟨v1, rfl, ho1, hb1⟩; obtain ⟨AP, cP, e1, _, rP⟩ := Kd.R_reads (Kd.S_R ho1); rw [L1.out] at e1 rP; have HRP := Aside0.mk rP; have HB1 := Aside0.mk hb1; clear ho1 hb1 rP; subst e1) | (go_at_call 21; refine (cfg_Doms.calls k _ _ _ doms _ (Kd.C_below HR.out HB1.out) HC.out H2.out).mono ?_; rintro e w2 ⟨v2, rfl, ho2, hb2⟩; obtain ⟨AD, cD, e2, _, rD⟩ := Kd.R_reads ho2; rw [L2.out] at e2 rD; have HRD := Aside0.mk rD; have HRP2 := Aside0.mk (Kd.C_below HRP.out hb2); have HB2 := Aside0.mk (below_step HB1.out hb2); clear ho2 hb2 rD HRP HB1; subst e2) | (go_at_call 22; refine (cfg_Reach.calls k _ _ _ reach _ (Kd.C_below HR.out HB2.out) HC.out H3.out).mono ?_; rintro e w3 ⟨v3, rfl, ho3, hb3⟩; obtain ⟨AR, cR, e3, _, rR⟩ := Kd.R_reads ho3; rw [L3.out] at e3 rR; have HRR := Aside0.mk rR; have HRP3 := Aside0.mk (Kd.C_below HRP2.out hb3); have HRD3 := Aside0.mk (Kd.C_below HRD.out hb3); have HB3 := Aside0.mk (below_step HB2.out hb3); clear ho3 hb3 rR HRP2 HRD HB2; subst e3))
  have HX := blk_new w3 (.cells #[.slice A ss.length c, .slice AP ss.length cP, .slice AD ss.length cD, .slice AR ss.length cR] 51)
  have HBG := below_alloc (Below.refl w3.heap.size w3) (.cells #[.slice A ss.length c, .slice AP ss.length cP, .slice AD ss.length cD, .slice AR ss.length cR] 51)
  generalize w3.alloc _ = wG at HX HBG ⊢
  have HG : Aside0 (Gr wG w3.heap.size ss.length ss preds doms reach A AP AD AR c cP cD cR) := ⟨⟨HX, Kd.C_below HRP3.out HBG, Kd.C_below HRD3.out HBG, Kd.C_below HRR.out HBG⟩⟩
  have HBW : Aside0 (Below w.heap.size w wG) := ⟨below_step HB3.out HBG⟩
  clear HX HBG HRP3 HRD3 HRR HB3
  go_loopw [4, 21] (fun v4 v21 wr => ∃ (j : Nat) (out : List S35), j ≤ ss.length ∧ v21 = .int .i64 (j : Int) ∧ out.length ≤ j ∧ Aside0 (Kd.S k35 35 wr wG.heap.size (fun _ => True) v4 out) ∧ Aside0 (Below wG.heap.size wG wr) ∧ Aside0 (ofR k reach doms preds ss.length (ss.length - j) j out = some res)) (fun _ v21 _ => ss.length - (intOf v21).toNat)
  case atStart => exact ⟨0, [], Nat.zero_le _, rfl, Nat.zero_le _, ⟨Kd.S_nil _ _ _ _ _⟩, ⟨Below.refl _ _⟩, HRES⟩
  case round =>
    clear HRES
    obtain ⟨j, out, hj, rfl, hol, HO1, HB1, HR1⟩ := hrel
    by_cases hlt : j < ss.length
    · have hr := HR1.out
      rw [show ss.length - j = (ss.length - (j + 1)) + 1 by omega] at hr
      unfold ofR at hr
      have hinr : ∀ x ∈ preds.getD ((j : Int)).toNat [], 0 ≤ x ∧ x < (ss.length : Int) := fun x hx => by
        obtain ⟨q, hq, rfl⟩ := List.mem_iff_getElem.1 hx
        have := inRows_get HIN.out ((j : Int)).toNat q (by rw [L1.out]; omega) hq
        rwa [List.getD_eq_getElem?_getD (l := preds.getD ((j : Int)).toNat []), List.getElem?_eq_getElem hq] at this
      have hlen := inRows_len HIN.out ((j : Int)).toNat (by rw [L1.out]; omega)
      have HINR := Aside0.mk hinr
      have HLEN := Aside0.mk hlen
      have HLT := Aside0.mk hlt
      have HOL := Aside0.mk hol
      clear hinr hlen HR1
      obtain ⟨l, hl⟩ : ∃ l, l = backsI reach doms preds (j : Int) := ⟨_, rfl⟩
      rw [← hl] at hr
      have HL := Aside0.mk hl
      clear hl
      by_cases hl0 : l.length = 0
      · rw [if_pos hl0] at hr
        have HR2 := Aside0.mk hr
        have d0 : decide ((0 : Int) < (l.length : Int)) = false := decide_eq_false (by omega)
        clear hr
        go_wp2_with ((go_at_call 23; refine (backs_any wr w3.heap.size ss.length (j : Int) ss preds doms reach A AP AD AR c cP cD cR (HG.out.later HB1.out) (by omega) (by have := HLT.out; omega) HINR.out HLEN.out).mono ?_; rintro e w4 ⟨v6, rfl, ho, hb⟩; rw [← HL.out] at ho; obtain ⟨A6, c6, e6⟩ := Kd.R_slice ho; subst e6; have HO4 := Aside0.mk ho; have HB4 := Aside0.mk hb; clear ho hb))
        go_roundw
        case rel => exact ⟨j + 1, out, by omega, by go_num, by have := HOL.out; omega, ⟨Kd.S_below HO1.out HB4.out⟩, ⟨below_step HB1.out HB4.out⟩, HR2⟩
        case measure => simp [intOf]; omega
      · rw [if_neg hl0] at hr
        have d0 : decide ((0 : Int) < (l.length : Int)) = true := decide_eq_true (by omega)
        obtain ⟨s0, hs0, hr⟩ := Option.bind_eq_some_iff.1 hr
        obtain ⟨b, hb, hr⟩ := Option.bind_eq_some_iff.1 hr
        obtain ⟨lb, hlb, hr⟩ := Option.bind_eq_some_iff.1 hr
        have HS0 := Aside0.mk hs0
        have HBB := Aside0.mk hb
        have HLB := Aside0.mk hlb
        have HR2 := Aside0.mk hr
        clear hr hs0 hb hlb
        go_wp2_with (first | (go_at_call 23; refine (backs_any wr w3.heap.size ss.length (j : Int) ss preds doms reach A AP AD AR c cP cD cR (HG.out.later HB1.out) (by omega) (by have := HLT.out; omega) HINR.out HLEN.out).mono ?_; rintro e w4 ⟨v6, rfl, ho, hb⟩; rw [← HL.out] at ho; obtain ⟨A6, c6, e6⟩ := Kd.R_slice ho; subst e6; have HO4 := Aside0.mk ho; have HB4 := Aside0.mk hb; clear ho hb) | (go_at_call 25; refine (body_any wr w4 w3.heap.size ss.length (j : Int) (.slice A6 l.length c6) l ss preds doms reach A AP AD AR c cP cD cR (HG.out.later HB1.out) HIN.out L1.out ⟨HO4.out, HB4.out⟩ k k s0 b HS0.out HBB.out).mono ?_; rintro e w5 ⟨rfl, hb5⟩; have HB5 := Aside0.mk hb5; clear hb5) | (go_at_call 24; refine (bits_List.calls b lb _ (It.TabOk.below HTB.out (below_step HBW.out (below_step HB1.out HB5.out))) HLB.out).mono ?_; rintro e w6 ⟨v7, rfl, ho7, hb7⟩; obtain ⟨A7, c7, e7⟩ := Kd.R_slice ho7; subst e7; have HO7 := Aside0.mk ho7; have HB7 := Aside0.mk hb7; have HOUT : Aside0 (Kd.S k35 35 w6 wG.heap.size (fun k => k < w5.heap.size) u4 out) := ⟨Kd.S_mono (Kd.S_below (Kd.S_bound (Kd.S_below HO1.out HB5.out)) hb7) (fun k hk => hk.2.2.1)⟩; have HLT4 : Aside0 (∀ k, u4.ownBlock = some k → k < w5.heap.size) := ⟨Kd.S_lt (Kd.S_below HO1.out HB5.out)⟩; have HB6 : Aside0 (Below wG.heap.size wG w6) := ⟨below_step HB1.out (below_step HB5.out HB7.out)⟩; have HSZ : Aside0 (wG.heap.size ≤ w5.heap.size) := ⟨below_size (below_step HB1.out HB5.out)⟩; clear ho7 hb7) | ((with_reducible refine gate_builtin (b := .append) (xs := #[.tmp 30, .tmp 38]) rfl ?_); at_builtin; refine Kd.S_append k35 (w0 := wG) wG.heap.size rfl (.tmp 30) (.tmp 38) 25 35 (.agg #[(.int .i64 0), (.slice none 0 0)]) 32 rfl Tryd.underlying25 info35 rfl (by decide) (by omega) u4 out (⟨(j : Int), lb⟩ : S35) [.int .i64 (j : Int), .slice A7 lb.length c7] (fun _ => True) (fun k_ => some k_ = (.slice A7 lb.length c7 : Value).ownBlock) rfl rfl ?aP ?aK ?aF ?aO ?aB ?aS ?aL ?_; (case aP => exact k35_mkM _ _ _ (⟨(j : Int), lb⟩ : S35) (Kd.R_mono (Kd.R_tight rfl (Kd.R_lower HO7.out HSZ.out)) (fun _ h_ => h_))); (case aK => exact fun k_ hk_ => ⟨trivial, fun e_ => by have h1 := Kd.R_base HO7.out k_ hk_.symm; have h2 := HLT4.out k_ e_.symm; omega⟩); (case aF => exact (fun _ _ => trivial)); (case aO => exact Kd.S_mono HOUT.out (fun k_ hk => ⟨trivial, fun e_ => by have h1 := Kd.R_base HO7.out k_ e_.symm; omega⟩)); (case aB => exact HB6.out); (case aS => exact below_size HB6.out); (case aL => have := HOL.out; have := HLT.out; have := HN.out; omega); intro v8 w8 ho hb hg hat; have HO8 := Aside0.mk ho; have HB8 := Aside0.mk hb; clear ho hb hg hat))
        go_roundw
        case rel => exact ⟨j + 1, out ++ [(⟨(j : Int), lb⟩ : S35)], by omega, by go_num, by rw [List.length_append, List.length_singleton]; have := HOL.out; omega, HO8, HB8, HR2⟩
        case measure => simp [intOf]; omega
    · obtain rfl : j = ss.length := by omega
      have hr := HR1.out
      rw [Nat.sub_self] at hr
      obtain rfl := Option.some.inj (show some out = some res from hr)
      clear hr HR1
      go_wp2
      go_ret
      exact ⟨_, rfl, Kd.S_lower HO1.out (below_size HBW.out), below_step HBW.out HB1.out⟩
def loop_Of.f (k : Nat) (l0 : List (List Int)) : Option (List S35) := if l0.length ≤ 64 then ((cfg_Preds.f k l0).bind fun preds => (cfg_Doms.f k l0).bind fun doms => (cfg_Reach.f k l0).bind fun reach => if (okD l0.length reach preds && decide (doms.length = l0.length)) = true then ofR k reach doms preds l0.length l0.length 0 [] else none) else some []
theorem loop_Of.mono : ∀ a0 k, LeO (loop_Of.f k a0) (loop_Of.f (k + 1) a0) := by
  intro a0 k
  unfold loop_Of.f
  exact LeO.ite (LeO.bind (cfg_Preds.mono a0 k) (fun preds => LeO.bind (cfg_Doms.mono a0 k) (fun doms => LeO.bind (cfg_Reach.mono a0 k) (fun reach => LeO.ite (ofR_mono reach doms preds _ k _ _ _) (LeO.refl _))))) (LeO.refl _)
set_option maxRecDepth 100000 in
theorem of_far (A : Option Addr) (c n : Nat) (w : World) (hn : ¬ n ≤ 64) : Calls Tryd.prog 9 #[.slice A n c] w (OfP w []) := by
  have dn : decide ((64 : Int) < (n : Int)) = true := decide_eq_true (by omega)
  clear hn
  go_enter Tryd.func9, Tryd.ntmps9
  go_wp2
  go_ret
  exact ⟨_, rfl, Kd.S_nil _ _ _ _ _, Below.refl _ _⟩
theorem loop_Of.calls (k : Nat) (A0 : Option Addr) (c0 : Nat) (l0 : List (List Int)) (r : List S35) (w : World) (hr0 : Kd.C (Kd.slice 3 (Kd.int .i64)) w A0 l0.length l0) (hc0 : l0.length ≤ c0) (HT0 : It.TabOk w) (h : loop_Of.f k l0 = some r) :
    Calls Tryd.prog 9 #[.slice A0 l0.length c0] w fun e w' => ∃ v0_ : Value, e = .returned (v0_) ∧ Kd.S k35 35 w' w.heap.size (fun _ => True) v0_ r ∧ Below w.heap.size w w' := by
  unfold loop_Of.f at h
  by_cases hn : l0.length ≤ 64
  · rw [if_pos hn] at h
    obtain ⟨preds, h1, h⟩ := Option.bind_eq_some_iff.1 h
    obtain ⟨doms, h2, h⟩ := Option.bind_eq_some_iff.1 h
    obtain ⟨reach, h3, h⟩ := Option.bind_eq_some_iff.1 h
    by_cases hok : (okD l0.length reach preds && decide (doms.length = l0.length)) = true
    · rw [if_pos hok] at h
      unfold okD at hok
      simp only [Bool.and_eq_true, decide_eq_true_eq] at hok
      exact of_any A0 c0 l0 w hr0 hc0 hn HT0 k reach preds doms r h1 h2 h3 hok.1.1.2 hok.2 hok.1.1.1 hok.1.2 h
    · rw [if_neg hok] at h; cases h
  · rw [if_neg hn] at h
    cases h
    exact of_far A0 c0 l0.length w hn

end Go.Proofs.YtbnkeddnibjncaaDoor.P
