-- written by this project's xprint.py (a turn of the kit's printer; its own texts among them)
import Derived.Test.YticdodbnjlnjlaaPx0
import Derived.Test.YticdodbnjlnjlaaPx3
namespace Go.Proofs.Yticdodbnjlnjlaa.P
open Go.RowKit Go.Proofs.YticdodbnjlnjlaaW.PrintWords Go.Proofs.YticdodbnjlnjlaaW.PrintLast Go.Proofs.YticdodbnjlnjlaaW.PrintMore
attribute [local go_sem] max2_int min2_int max_two min_two max_three min_three max_four min_four   -- for this text's walks alone
attribute [local irreducible] Calls
set_option linter.unusedVariables false
set_option linter.unusedSimpArgs false

/-! ### seg_Heads: function 21 -/
def markL (l : List Bool) (i : Int) : List Bool := if 0 ≤ i then (if i < (l.length : Int) then l.set i.toNat true else l) else l
structure HSt (w0 w : World) (g : Nat) (l : List Bool) : Prop where
  below : Below w0.heap.size w0 w
  base : w0.heap.size ≤ g
  row : ∃ v, w.heap[g]? = some (.cells #[v] 53 (0, 0)) ∧ Kd.R Kd.bool 4 w w0.heap.size (fun k => k ≠ g) v l
def HKeep (w w' : World) : Prop := ∀ (p : Nat) (cells : Array Value) (t : TypeId) (fr : Nat × Nat), t ≠ 4 → w.heap[p]? = some (Obj.cells cells t fr) → w'.heap[p]? = some (Obj.cells cells t fr)
theorem HSt.step {w0 w w' : World} {g : Nat} {l : List Bool} (h : HSt w0 w g l) (hb : Below w.heap.size w w') : HSt w0 w' g l := by
  obtain ⟨v, h1, h2⟩ := h.row
  exact ⟨below_step h.below hb, h.base, v, blk_below h1 hb, Kd.R_below h2 hb⟩
set_option maxHeartbeats 1000000 in
theorem mark_any {w0 w : World} {g : Nat} {l : List Bool} (h : HSt w0 w g l) (i : Int) :
    Calls Try.prog 44 #[.int .i64 i, .pointer (some ⟨g, 0, none⟩)] w fun e w' => e = .returned (.tuple #[]) ∧ HSt w0 w' g (markL l i) ∧ HKeep w w' := by
  obtain ⟨hB, hg, v, hblk, hR⟩ := h
  obtain ⟨A, c, rfl⟩ := Kd.R_slice hR
  have hc : w.cell? ⟨g, 0, none⟩ = some (.slice A l.length c) := (blk_cell hblk 0).trans rfl
  unfold markL
  by_cases h0 : 0 ≤ i
  · rw [if_pos h0]
    have d0 : decide (0 ≤ i) = true := decide_eq_true h0
    by_cases h1 : i < (l.length : Int)
    · rw [if_pos h1]
      obtain ⟨b, cap, e, hb, hbl, cells, hcells⟩ := Kd.R_form hR (by omega)
      obtain ⟨rfl, rfl⟩ : A = some ⟨b, 0, none⟩ ∧ c = cap := by injection e; exact ⟨‹_›, ‹_›⟩
      clear e
      have d1 : decide (i < (l.length : Int)) = true := decide_eq_true h1
      obtain ⟨hc1, hf1⟩ := Kd.R_cell false hR i h0 h1
      have HF := Aside0.mk (Kd.R_put hR i true)
      have hne : g ≠ b := fun he => (hR.1 b rfl) he.symm
      have HB := Aside0.mk hB
      have HK := Aside0.mk hblk
      clear hB hblk hR
      go_enter Try.func44, Try.ntmps44
      go_wp2
      go_end0
      refine ⟨rfl, ⟨below_set HB.out hb, hg, _, blk_far HK.out hne _, HF.out.1⟩, fun p cells' t fr ht hp => ?_⟩
      rw [Below.heap_setCell _ _ _ _ (fun he => by subst he; rw [hp] at hcells; injection hcells with hcells; injection hcells with _ hh; exact ht hh)]
      exact hp
    · rw [if_neg h1]
      have d1 : decide (i < (l.length : Int)) = false := decide_eq_false h1
      have HF := Aside0.mk (HSt.mk hB hg ⟨_, hblk, hR⟩)
      clear hB hblk hR
      go_enter Try.func44, Try.ntmps44
      go_wp2
      go_end0
      exact ⟨rfl, HF.out, fun _ _ _ _ _ h => h⟩
  · rw [if_neg h0]
    have d0 : decide (0 ≤ i) = false := decide_eq_false h0
    have HF := Aside0.mk (HSt.mk hB hg ⟨_, hblk, hR⟩)
    clear hB hblk hR
    go_enter Try.func44, Try.ntmps44
    go_wp2
    go_end0
    exact ⟨rfl, HF.out, fun _ _ _ _ _ h => h⟩
theorem HSt.new {w w1 : World} {v : Value} {l : List Bool} (hr : Kd.R Kd.bool 4 w1 w.heap.size (fun _ => True) v l) (hb : Below w.heap.size w w1) : HSt w (w1.alloc (.cells #[v] 53)) w1.heap.size l :=
  ⟨below_alloc hb _, hb.size, v, blk_new _ _, Kd.R_alloc (Kd.R_mono (Kd.R_bound hr) (fun _ hk => Nat.ne_of_lt hk.2.2.1)) _⟩
theorem HSt.out {w0 w : World} {g : Nat} {l : List Bool} (h : HSt w0 w g l) : ∃ v, w.cell? ⟨g, 0, none⟩ = some v ∧ Kd.R Kd.bool 4 w w0.heap.size (fun _ => True) v l ∧ ∃ A c, v = .slice A l.length c := by
  obtain ⟨v, h1, h2⟩ := h.row
  exact ⟨v, (blk_cell h1 0).trans rfl, Kd.R_mono h2 (fun _ _ => trivial), Kd.R_slice h2⟩
def headsStep (l : List Bool) (i : Int) (x : S33) : List Bool :=
  let l1 := if x.f0 = 10 then markL l x.f1 else if x.f0 = 11 then markL l x.f2 else l
  if (shpAt x.f0).p = true then l1 else markL (markL l1 i) (i + 1)
def headsK (c : List S33) : Nat → List Bool
  | 0 => markL (List.replicate c.length false) 0
  | k + 1 => headsStep (headsK c k) k (rd_T33 c k)
def seg_Heads.f (l0 : List (S33)) : Option (List Bool) := if l0.length ≤ 140737488355328 then (if (l0.all fun x => decide (0 ≤ x.f0) && decide (x.f0 ≤ 255)) = true then some (headsK l0 l0.length) else none) else none
set_option maxHeartbeats 8000000 in
set_option maxRecDepth 100000 in
theorem seg_Heads.calls (A0 : Option Addr) (c0 : Nat) (l0 : List (S33)) (r : List Bool) (w : World) (hr0 : Kd.C k33 w A0 l0.length l0) (hc0 : l0.length ≤ c0) (h : seg_Heads.f l0 = some r) :
    Calls Try.prog 21 #[.slice A0 l0.length c0] w fun e w' => ∃ v0_ : Value, e = .returned (v0_) ∧ Kd.R Kd.bool 4 w' w.heap.size (fun _ => True) v0_ r ∧ Below w.heap.size w w' := by
  unfold seg_Heads.f at h
  by_cases h1 : l0.length ≤ 140737488355328
  · rw [if_pos h1] at h
    by_cases h2 : (l0.all fun x => decide (0 ≤ x.f0) && decide (x.f0 ≤ 255)) = true
    · rw [if_pos h2] at h
      obtain rfl := Option.some.inj h
      have H2 := Aside0.mk h2
      have HR0 := Aside0.mk hr0
      have HC0 := Aside0.mk hc0
      clear h hr0 hc0 h2
      go_enter Try.func21, Try.ntmps21
      go_wp2_with (first | (refine gate_ (.makeSlice 53 _ _) rfl ?_; refine Kd.R_make Kd.bool (w0 := w) w.heap.size 4 rfl rfl 53 (.tmp 8) (.tmp 8) rfl (l0.length : Int) rfl rfl Try.underlying53 (.bool false) 1 info4 rfl (by decide) (by decide) false (ok := fun _ => True) (okp := fun _ => False) ?hz (fun _ h => h.elim) trivial (by omega) ?hl (Below.refl _ _) (Nat.le_refl _) ?_; (case hz => rfl); (case hl => (rw [Int.toNat_natCast]; omega)); intro v1 w1 hr hb hgr hown; clear hgr hown; rw [Int.toNat_natCast] at hr; have HL := Aside0.mk (show headsK l0 0 = markL (List.replicate l0.length false) 0 from rfl); generalize List.replicate l0.length false = L0 at hr HL; obtain ⟨A1, c1, rfl⟩ := Kd.R_slice hr; have HS := Aside0.mk (HSt.new hr hb); clear hr hb) | (go_at_call 44; with_reducible refine (mark_any HS.out _).mono ?_; rintro e w2 ⟨rfl, hs, hk⟩; have HS1 := Aside0.mk hs; clear HS hs hk; have HS := HS1; clear HS1))
      generalize w1.heap.size = g at HS ⊢
      go_loopw [15] (fun v15 wr => ∃ n : Nat, n ≤ l0.length ∧ v15 = .int .i64 (n : Int) ∧ Aside0 (HSt w wr g (headsK l0 n))) (fun v15 _ => l0.length - (intOf v15).toNat)
      case atStart => exact ⟨0, Nat.zero_le _, rfl, ⟨by rw [HL.out]; exact HS.out⟩⟩
      case round =>
        clear HS HL
        obtain ⟨n, hn, rfl, HS⟩ := hrel
        by_cases hlt : n < l0.length
        · have hp : 0 ≤ (rd_T33 l0 n).f0 ∧ (rd_T33 l0 n).f0 ≤ 255 := by
            have h3 := List.all_eq_true.1 H2.out (rd_T33 l0 n) (by
              show l0.getD (n : Int).toNat z33 ∈ l0
              rw [Int.toNat_natCast, List.getD_eq_getElem?_getD, List.getElem?_eq_getElem hlt]
              exact List.getElem_mem hlt)
            simpa using h3
          have HP := Aside0.mk hp
          have HN := Aside0.mk (show headsK l0 (n + 1) = headsStep (headsK l0 n) n (rd_T33 l0 n) from rfl)
          obtain ⟨ad, e0, hx0, hx1, hx2, hx3⟩ := at_T33 (Kd.C_below HR0.out HS.out.below) n (by omega) (by omega)
          cases e0
          rw [Int.toNat_natCast] at hx0 hx1 hx2 hx3
          generalize rd_T33 l0 n = x at HP HN hx0 hx1 hx2 hx3
          obtain ⟨x0, x1, x2, x3⟩ := x
          dsimp only at hx0 hx1 hx2 hx3 HP
          clear hp
          have HPl : ∀ w, Calls Try.prog 33 #[.int .u8 x0] w fun e w' => e = .returned (.bool (shpAt x0).p) ∧ Below w.heap.size w w' := fun w => ir_Plain.calls x0 _ w (by unfold ir_Plain.f; rw [if_pos HP.out.1, if_pos HP.out.2])
          replace HPl := Aside0.mk HPl
          have HN' : headsK l0 (n + 1) = if (shpAt x0).p = true then (if x0 = 10 then markL (headsK l0 n) x1 else if x0 = 11 then markL (headsK l0 n) x2 else headsK l0 n) else markL (markL (if x0 = 10 then markL (headsK l0 n) x1 else if x0 = 11 then markL (headsK l0 n) x2 else headsK l0 n) n) (n + 1) := HN.out
          clear HN HP
          generalize hLN : headsK l0 (n + 1) = LN at HN'
          generalize headsK l0 n = L at HN' HS
          generalize (shpAt x0).p = bp at HN' HPl
          have fin : ∀ {L' : List Bool}, LN = L' → ∀ {w' : World}, HSt w w' g L' → Aside0 (HSt w w' g (headsK l0 (n + 1))) := fun e _ h => ⟨by rw [hLN, e]; exact h⟩
          clear hLN
          replace fin := Aside0.mk @fin
          by_cases c10 : x0 = 10
          · rw [if_pos c10] at HN'
            have d1 : (x0 == 10) = true := beq_iff_eq.2 c10
            cases bp
            all_goals
              replace HN := Aside0.mk HN'
              clear HN' c10
              go_wp2_with (first | (go_at_call 44; (first | (with_reducible refine (mark_any HS.out _).mono ?_) | (with_reducible refine (mark_any (HS.out.step (below_alloc (Below.refl _ _) _)) _).mono ?_)); rintro e w2 ⟨rfl, hs, hk⟩; have HS1 := Aside0.mk hs; (try have hcx := (blk_cell (hk wr.heap.size _ 33 _ (by decide) (blk_new wr _)) 0).trans rfl); clear HS hs hk; have HS := HS1; clear HS1) | (go_at_call 33; refine (HPl.out _).mono ?_; rintro e w3 ⟨rfl, hb⟩; have HS1 := Aside0.mk (show HSt w w3 g _ from by first | exact HS.out.step hb | exact (HS.out.step (below_alloc (Below.refl _ _) _)).step hb); clear HS hb; have HS := HS1; clear HS1))
              go_roundw
              case rel => exact ⟨n + 1, by omega, by go_num, fin.out HN.out HS.out⟩
              case measure => simp [intOf]; omega
          · rw [if_neg c10] at HN'
            have d1 : (x0 == 10) = false := beq_eq_false_iff_ne.2 c10
            by_cases c11 : x0 = 11
            · rw [if_pos c11] at HN'
              have d2 : (x0 == 11) = true := beq_iff_eq.2 c11
              cases bp
              all_goals
                replace HN := Aside0.mk HN'
                clear HN' c10 c11
                go_wp2_with (first | (go_at_call 44; (first | (with_reducible refine (mark_any HS.out _).mono ?_) | (with_reducible refine (mark_any (HS.out.step (below_alloc (Below.refl _ _) _)) _).mono ?_)); rintro e w2 ⟨rfl, hs, hk⟩; have HS1 := Aside0.mk hs; (try have hcx := (blk_cell (hk wr.heap.size _ 33 _ (by decide) (blk_new wr _)) 0).trans rfl); clear HS hs hk; have HS := HS1; clear HS1) | (go_at_call 33; refine (HPl.out _).mono ?_; rintro e w3 ⟨rfl, hb⟩; have HS1 := Aside0.mk (show HSt w w3 g _ from by first | exact HS.out.step hb | exact (HS.out.step (below_alloc (Below.refl _ _) _)).step hb); clear HS hb; have HS := HS1; clear HS1))
                go_roundw
                case rel => exact ⟨n + 1, by omega, by go_num, fin.out HN.out HS.out⟩
                case measure => simp [intOf]; omega
            · rw [if_neg c11] at HN'
              have d2 : (x0 == 11) = false := beq_eq_false_iff_ne.2 c11
              cases bp
              all_goals
                replace HN := Aside0.mk HN'
                clear HN' c10 c11
                go_wp2_with (first | (go_at_call 44; (first | (with_reducible refine (mark_any HS.out _).mono ?_) | (with_reducible refine (mark_any (HS.out.step (below_alloc (Below.refl _ _) _)) _).mono ?_)); rintro e w2 ⟨rfl, hs, hk⟩; have HS1 := Aside0.mk hs; (try have hcx := (blk_cell (hk wr.heap.size _ 33 _ (by decide) (blk_new wr _)) 0).trans rfl); clear HS hs hk; have HS := HS1; clear HS1) | (go_at_call 33; refine (HPl.out _).mono ?_; rintro e w3 ⟨rfl, hb⟩; have HS1 := Aside0.mk (show HSt w w3 g _ from by first | exact HS.out.step hb | exact (HS.out.step (below_alloc (Below.refl _ _) _)).step hb); clear HS hb; have HS := HS1; clear HS1))
                go_roundw
                case rel => exact ⟨n + 1, by omega, by go_num, fin.out HN.out (by first | exact HS.out | exact HS.out.step (below_alloc (Below.refl _ _) _))⟩
                case measure => simp [intOf]; omega
        · obtain rfl : n = l0.length := by omega
          obtain ⟨v, hv, hr, A, c, rfl⟩ := HS.out.out
          have HV := Aside0.mk hr
          have HB := Aside0.mk HS.out.below
          clear hr HS
          go_wp2
          go_ret
          exact ⟨_, rfl, HV.out, HB.out⟩
    · rw [if_neg h2] at h
      exact absurd h (by simp)
  · rw [if_neg h1] at h
    exact absurd h (by simp)

/-! ### api_Ins: function 22 -/
set_option maxRecDepth 100000 in
theorem cloneI_any (A : Option Addr) (c : Nat) (l : List S33) (w : World) (hr : Kd.C k33 w A l.length l) (hc : l.length ≤ c) (hl : l.length ≤ 60) :
    Calls Try.prog 22 #[.slice A l.length c] w fun e w' => ∃ v, e = .returned v ∧ Kd.R k33 33 w' w.heap.size (fun _ => True) v l ∧ Below w.heap.size w w' := by
  cases A with
  | none =>
    have h0 : l = [] := by
      cases l with
      | nil => rfl
      | cons x t =>
        obtain ⟨ad, _, e, _⟩ := Kd.C_get hr z33 (0 : Int) (by omega) (by rw [List.length_cons]; omega)
        cases e
    subst h0
    have hq : ∀ (w : World) (a : Option Addr) (n c n' c' : Nat), (binOp .eql 28 (.slice a n c) (.slice none n' c')).run Try.prog w = .ok (.bool a.isNone) w := fun w a n c n' c' => Lib.run_eql_slice_nil w _ _ a n c n' c' Try.underlying28
    go_enter Try.func22, Try.ntmps22
    go_wp2
    go_ret
    exact ⟨_, rfl, Kd.R_nil _ _ _ _ _, Below.refl _ _⟩
  | some ad =>
    have HR := Aside0.mk hr
    have HB := Aside0.mk (Below.refl w.heap.size w)
    clear hr
    have hq : ∀ (w : World) (a : Option Addr) (n c n' c' : Nat), (binOp .eql 28 (.slice a n c) (.slice none n' c')).run Try.prog w = .ok (.bool a.isNone) w := fun w a n c n' c' => Lib.run_eql_slice_nil w _ _ a n c n' c' Try.underlying28
    go_enter Try.func22, Try.ntmps22
    go_wp2_with (((with_reducible refine gate_builtin (b := .append) (xs := #[.tmp 5, .tmp 6]) rfl ?_); at_builtin; refine Kd.R_append_rows k33 (w0 := w) w.heap.size rfl (.tmp 5) (.tmp 6) 28 33 (.agg #[(.int .u8 0), (.int .i64 0), (.int .i64 0), (.int .i64 0)]) 32 rfl Try.underlying28 info33 rfl (by decide) (by omega) (.slice (some ⟨w.heap.size, 0, none⟩) 0 0) ([] : List S33) l _ _ _ (fun _ => True) (fun _ => False) rfl rfl ?aO ?aR (fun _ _ h => h) (fun _ h => h.elim) ?aF ?aB ?aS ?aL ?_; (case aO => exact ⟨fun _ _ => trivial, OwnRow.lit w w.heap.size (Reps.none _ _) (Nat.le_refl _) (by decide)⟩); (case aR => exact Kd.C_alloc HR.out _); (case aF => exact (fun _ _ => trivial)); (case aB => exact below_alloc HB.out _); (case aS => exact below_size (below_alloc HB.out _)); (case aL => simp; omega); intro v1 w1 ho hb hg hat; have HO := Aside0.mk ho; have HB1 := Aside0.mk hb; clear ho hb hg hat))
    go_ret
    exact ⟨_, rfl, HO.out, HB1.out⟩
def api_Ins.f (l0 : List S33) : Option (List S33) := if l0.length ≤ 60 then some l0 else none
theorem api_Ins.calls (A0 : Option Addr) (c0 : Nat) (l0 : List S33) (r : List S33) (w : World) (hr0 : Kd.C k33 w A0 l0.length l0) (hc0 : l0.length ≤ c0) (h : api_Ins.f l0 = some r) :
    Calls Try.prog 22 #[.slice A0 l0.length c0] w fun e w' => ∃ v0_ : Value, e = .returned (v0_) ∧ Kd.R k33 33 w' w.heap.size (fun _ => True) v0_ r ∧ Below w.heap.size w w' := by
  unfold api_Ins.f at h
  by_cases hl : l0.length ≤ 60
  · rw [if_pos hl] at h
    obtain rfl := Option.some.inj h
    exact cloneI_any A0 c0 l0 w hr0 hc0 hl
  · rw [if_neg hl] at h
    cases h

/-! ### swap_rank: function 23 -/
def swap_rank.f (a0_0 : Int) (a0_1 : Int) (a0_2 : Int) (a0_3 : Int) : Option (Int) := if a0_0 = 7 then (some 0) else (if a0_0 = 8 then (some 2) else (if a0_0 = 0 then (some 3) else (some 1)))
set_option maxHeartbeats 8000000 in
set_option maxRecDepth 100000 in
theorem swap_rank.calls (a0_0 : Int) (a0_1 : Int) (a0_2 : Int) (a0_3 : Int) (r : Int) (w : World) (h : swap_rank.f a0_0 a0_1 a0_2 a0_3 = some r) :
    Calls Try.prog 23 #[.agg #[.int .u8 a0_0, .int .i64 a0_1, .int .i64 a0_2, .int .i64 a0_3]] w fun e w' => e = .returned (.int .i64 r) ∧ Below w.heap.size w w' := by
  have hu33 := Try.underlying33
  have HB := Aside0.mk (Below.refl w.heap.size w)
  have H : (if a0_0 = 7 then (some 0) else (if a0_0 = 8 then (some 2) else (if a0_0 = 0 then (some 3) else (some 1)))) = some r := h
  clear h
  by_cases c2 : a0_0 = 7
  · rw [if_pos c2] at H
    have c2b0 : (a0_0 == 7) = true := beq_iff_eq.mpr c2
    have c2b1 : (a0_0 != 7) = false := bne_eq_false_iff_eq.mpr c2
    clear c2
    obtain rfl := Option.some.inj H
    go_enter Try.func23, Try.ntmps23
    go_wp2_with (first | ((with_reducible refine gate_dst (N := 1) rfl ?_); refine box_event ?hg (N := 1) ?hd (cs := #[.int .u8 a0_0, .int .i64 a0_1, .int .i64 a0_2, .int .i64 a0_3]) (t := 33) ?hr ?_; (case hd => rfl); (case hg => rfl); (case hr => first | (go_simp; done) | (go_simp; rfl)); intro gb163 hg w3 hbox hb; have n0_ := Aside0.mk (below_step (by repeat (first | (with_reducible first | exact HB.out | apply below_alloc | apply pw_below_drewN | apply below_drew1) | exact HB.out)) hb); have n1_ := Aside0.mk (hbox); have n2_ := Aside0.mk ((by rw [hg]; exact (below_size (by repeat (first | (with_reducible first | exact HB.out | apply below_alloc | apply pw_below_drewN | apply below_drew1) | exact HB.out))) : w.heap.size ≤ gb163)); have n3_ := Aside0.mk ((by rw [hg]; exact (below_size (by repeat (first | (with_reducible first | exact HB.out | apply below_alloc | apply pw_below_drewN | apply below_drew1) | exact HB.out))) : w.heap.size ≤ gb163)); clear HB; have HB := n0_; have BK163 := n1_; have GW163 := n2_; have GE163 := n3_; clear n0_ n1_ n2_ n3_; clear hb hbox hg; have hcz4_0 : w3.cell? ⟨gb163, 0, none⟩ = some (.int .u8 a0_0) := (blk_cell BK163.out 0).trans rfl; have hcz4_1 : w3.cell? ⟨gb163, 1, none⟩ = some (.int .i64 a0_1) := (blk_cell BK163.out 1).trans rfl; have hcz4_2 : w3.cell? ⟨gb163, 2, none⟩ = some (.int .i64 a0_2) := (blk_cell BK163.out 2).trans rfl; have hcz4_3 : w3.cell? ⟨gb163, 3, none⟩ = some (.int .i64 a0_3) := (blk_cell BK163.out 3).trans rfl; have hfz4_0 := blk_frozen BK163.out 0; have hfz4_1 := blk_frozen BK163.out 1; have hfz4_2 := blk_frozen BK163.out 2; have hfz4_3 := blk_frozen BK163.out 3))
    go_ret
    exact ⟨by first | rfl | (simp [errW_none, errW_some] <;> rfl) | (simp [*, errW_none, errW_some] <;> rfl), by repeat (first | (with_reducible first | exact HB.out | apply below_alloc | apply pw_below_drewN | apply below_drew1 | refine below_set ?_ GE163.out) | exact HB.out)⟩
  · rw [if_neg c2] at H
    have c2b0 : (a0_0 == 7) = false := beq_eq_false_iff_ne.mpr c2
    have c2b1 : (a0_0 != 7) = true := bne_iff_ne.mpr c2
    by_cases c5 : a0_0 = 8
    · rw [if_pos c5] at H
      have c5b0 : (a0_0 == 8) = true := beq_iff_eq.mpr c5
      have c5b1 : (a0_0 != 8) = false := bne_eq_false_iff_eq.mpr c5
      clear c5
      obtain rfl := Option.some.inj H
      go_enter Try.func23, Try.ntmps23
      go_wp2_with (first | ((with_reducible refine gate_dst (N := 1) rfl ?_); refine box_event ?hg (N := 1) ?hd (cs := #[.int .u8 a0_0, .int .i64 a0_1, .int .i64 a0_2, .int .i64 a0_3]) (t := 33) ?hr ?_; (case hd => rfl); (case hg => rfl); (case hr => first | (go_simp; done) | (go_simp; rfl)); intro gb163 hg w6 hbox hb; have n0_ := Aside0.mk (below_step (by repeat (first | (with_reducible first | exact HB.out | apply below_alloc | apply pw_below_drewN | apply below_drew1) | exact HB.out)) hb); have n1_ := Aside0.mk (hbox); have n2_ := Aside0.mk ((by rw [hg]; exact (below_size (by repeat (first | (with_reducible first | exact HB.out | apply below_alloc | apply pw_below_drewN | apply below_drew1) | exact HB.out))) : w.heap.size ≤ gb163)); have n3_ := Aside0.mk ((by rw [hg]; exact (below_size (by repeat (first | (with_reducible first | exact HB.out | apply below_alloc | apply pw_below_drewN | apply below_drew1) | exact HB.out))) : w.heap.size ≤ gb163)); clear HB; have HB := n0_; have BK163 := n1_; have GW163 := n2_; have GE163 := n3_; clear n0_ n1_ n2_ n3_; clear hb hbox hg; have hcz7_0 : w6.cell? ⟨gb163, 0, none⟩ = some (.int .u8 a0_0) := (blk_cell BK163.out 0).trans rfl; have hcz7_1 : w6.cell? ⟨gb163, 1, none⟩ = some (.int .i64 a0_1) := (blk_cell BK163.out 1).trans rfl; have hcz7_2 : w6.cell? ⟨gb163, 2, none⟩ = some (.int .i64 a0_2) := (blk_cell BK163.out 2).trans rfl; have hcz7_3 : w6.cell? ⟨gb163, 3, none⟩ = some (.int .i64 a0_3) := (blk_cell BK163.out 3).trans rfl; have hfz7_0 := blk_frozen BK163.out 0; have hfz7_1 := blk_frozen BK163.out 1; have hfz7_2 := blk_frozen BK163.out 2; have hfz7_3 := blk_frozen BK163.out 3))
      go_ret
      exact ⟨by first | rfl | (simp [errW_none, errW_some] <;> rfl) | (simp [*, errW_none, errW_some] <;> rfl), by repeat (first | (with_reducible first | exact HB.out | apply below_alloc | apply pw_below_drewN | apply below_drew1 | refine below_set ?_ GE163.out) | exact HB.out)⟩
    · rw [if_neg c5] at H
      have c5b0 : (a0_0 == 8) = false := beq_eq_false_iff_ne.mpr c5
      have c5b1 : (a0_0 != 8) = true := bne_iff_ne.mpr c5
      by_cases c8 : a0_0 = 0
      · rw [if_pos c8] at H
        have c8b0 : (a0_0 == 0) = true := beq_iff_eq.mpr c8
        have c8b1 : (a0_0 != 0) = false := bne_eq_false_iff_eq.mpr c8
        clear c8
        obtain rfl := Option.some.inj H
        go_enter Try.func23, Try.ntmps23
        go_wp2_with (first | ((with_reducible refine gate_dst (N := 1) rfl ?_); refine box_event ?hg (N := 1) ?hd (cs := #[.int .u8 a0_0, .int .i64 a0_1, .int .i64 a0_2, .int .i64 a0_3]) (t := 33) ?hr ?_; (case hd => rfl); (case hg => rfl); (case hr => first | (go_simp; done) | (go_simp; rfl)); intro gb163 hg w9 hbox hb; have n0_ := Aside0.mk (below_step (by repeat (first | (with_reducible first | exact HB.out | apply below_alloc | apply pw_below_drewN | apply below_drew1) | exact HB.out)) hb); have n1_ := Aside0.mk (hbox); have n2_ := Aside0.mk ((by rw [hg]; exact (below_size (by repeat (first | (with_reducible first | exact HB.out | apply below_alloc | apply pw_below_drewN | apply below_drew1) | exact HB.out))) : w.heap.size ≤ gb163)); have n3_ := Aside0.mk ((by rw [hg]; exact (below_size (by repeat (first | (with_reducible first | exact HB.out | apply below_alloc | apply pw_below_drewN | apply below_drew1) | exact HB.out))) : w.heap.size ≤ gb163)); clear HB; have HB := n0_; have BK163 := n1_; have GW163 := n2_; have GE163 := n3_; clear n0_ n1_ n2_ n3_; clear hb hbox hg; have hcz10_0 : w9.cell? ⟨gb163, 0, none⟩ = some (.int .u8 a0_0) := (blk_cell BK163.out 0).trans rfl; have hcz10_1 : w9.cell? ⟨gb163, 1, none⟩ = some (.int .i64 a0_1) := (blk_cell BK163.out 1).trans rfl; have hcz10_2 : w9.cell? ⟨gb163, 2, none⟩ = some (.int .i64 a0_2) := (blk_cell BK163.out 2).trans rfl; have hcz10_3 : w9.cell? ⟨gb163, 3, none⟩ = some (.int .i64 a0_3) := (blk_cell BK163.out 3).trans rfl; have hfz10_0 := blk_frozen BK163.out 0; have hfz10_1 := blk_frozen BK163.out 1; have hfz10_2 := blk_frozen BK163.out 2; have hfz10_3 := blk_frozen BK163.out 3))
        go_ret
        exact ⟨by first | rfl | (simp [errW_none, errW_some] <;> rfl) | (simp [*, errW_none, errW_some] <;> rfl), by repeat (first | (with_reducible first | exact HB.out | apply below_alloc | apply pw_below_drewN | apply below_drew1 | refine below_set ?_ GE163.out) | exact HB.out)⟩
      · rw [if_neg c8] at H
        have c8b0 : (a0_0 == 0) = false := beq_eq_false_iff_ne.mpr c8
        have c8b1 : (a0_0 != 0) = true := bne_iff_ne.mpr c8
        obtain rfl := Option.some.inj H
        go_enter Try.func23, Try.ntmps23
        go_wp2_with (first | ((with_reducible refine gate_dst (N := 1) rfl ?_); refine box_event ?hg (N := 1) ?hd (cs := #[.int .u8 a0_0, .int .i64 a0_1, .int .i64 a0_2, .int .i64 a0_3]) (t := 33) ?hr ?_; (case hd => rfl); (case hg => rfl); (case hr => first | (go_simp; done) | (go_simp; rfl)); intro gb163 hg w11 hbox hb; have n0_ := Aside0.mk (below_step (by repeat (first | (with_reducible first | exact HB.out | apply below_alloc | apply pw_below_drewN | apply below_drew1) | exact HB.out)) hb); have n1_ := Aside0.mk (hbox); have n2_ := Aside0.mk ((by rw [hg]; exact (below_size (by repeat (first | (with_reducible first | exact HB.out | apply below_alloc | apply pw_below_drewN | apply below_drew1) | exact HB.out))) : w.heap.size ≤ gb163)); have n3_ := Aside0.mk ((by rw [hg]; exact (below_size (by repeat (first | (with_reducible first | exact HB.out | apply below_alloc | apply pw_below_drewN | apply below_drew1) | exact HB.out))) : w.heap.size ≤ gb163)); clear HB; have HB := n0_; have BK163 := n1_; have GW163 := n2_; have GE163 := n3_; clear n0_ n1_ n2_ n3_; clear hb hbox hg; have hcz12_0 : w11.cell? ⟨gb163, 0, none⟩ = some (.int .u8 a0_0) := (blk_cell BK163.out 0).trans rfl; have hcz12_1 : w11.cell? ⟨gb163, 1, none⟩ = some (.int .i64 a0_1) := (blk_cell BK163.out 1).trans rfl; have hcz12_2 : w11.cell? ⟨gb163, 2, none⟩ = some (.int .i64 a0_2) := (blk_cell BK163.out 2).trans rfl; have hcz12_3 : w11.cell? ⟨gb163, 3, none⟩ = some (.int .i64 a0_3) := (blk_cell BK163.out 3).trans rfl; have hfz12_0 := blk_frozen BK163.out 0; have hfz12_1 := blk_frozen BK163.out 1; have hfz12_2 := blk_frozen BK163.out 2; have hfz12_3 := blk_frozen BK163.out 3))
        go_ret
        exact ⟨by first | rfl | (simp [errW_none, errW_some] <;> rfl) | (simp [*, errW_none, errW_some] <;> rfl), by repeat (first | (with_reducible first | exact HB.out | apply below_alloc | apply pw_below_drewN | apply below_drew1 | refine below_set ?_ GE163.out) | exact HB.out)⟩

end Go.Proofs.Yticdodbnjlnjlaa.P
