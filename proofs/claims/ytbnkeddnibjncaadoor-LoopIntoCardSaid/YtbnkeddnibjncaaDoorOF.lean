import Derived.Test.YtbnkeddnibjncaaDoorDM
import Derived.Test.YtbnkeddnibjncaaDoorIt4
namespace Go.Proofs.YtbnkeddnibjncaaDoor.Th
set_option linter.unusedVariables false
set_option linter.unusedSectionVars false
open Go Go.RowKit Go.Proofs.YtbnkeddnibjncaaDoor.P Go.Proofs.YtbnkeddnibjncaaDoor.Opn Go.Proofs.YtbnkeddnibjncaaDoorW.PrintWords Go.Proofs.YtbnkeddnibjncaaDoorW.PrintLast Go.Proofs.YtbnkeddnibjncaaDoorW.PrintMore
/-! loop.Of comes to the loops. -/
theorem domsR_up (rc : List Bool) (ps : List (List Int)) (al : Int) (n k : Nat) : ∀ (d : Nat) (out : List Int), LeO (domsR k rc ps al n d out) (domsR k rc ps al n (d + 1) out)
  | 0, _ => fun r h => by cases h
  | d + 1, out => LeO.bind (LeO.refl _) (fun r => LeO.ite (domsR_up rc ps al n k d r.2) (LeO.refl _))
theorem up_to {α : Type} {f : Nat → Option α} (h : ∀ d, LeO (f d) (f (d + 1))) {d e : Nat} (hde : d ≤ e) {r : α} (hr : f d = some r) : f e = some r := by
  obtain ⟨j, rfl⟩ : ∃ j, e = d + j := ⟨e - d, by omega⟩
  clear hde
  induction j with
  | zero => exact hr
  | succ j ih => exact h (d + j) r ih
theorem ev_diag {α : Type} {f : Nat → Nat → Option α} (h : ∀ k d, LeO (f k d) (f k (d + 1))) {D : Nat} {r : α} (hr : Ev (fun k => f k D) r) : Ev (fun k => f k k) r := by
  obtain ⟨K, hK⟩ := hr
  refine ⟨max K D, fun k hk => ?_⟩
  exact up_to (h k) (Nat.le_trans (Nat.le_max_right K D) hk) (hK k (Nat.le_trans (Nat.le_max_left K D) hk))
theorem preds_rows (ss : List (List Int)) (hn : ss.length ≤ 64) : inRows ss.length (preds ss) = true := by
  unfold inRows
  refine List.all_eq_true.2 (fun l hl => ?_)
  obtain ⟨j, hj, rfl⟩ := List.mem_iff_getElem.1 hl
  have e : (preds ss).getD j [] = (preds ss)[j] := by rw [List.getD_eq_getElem?_getD, List.getElem?_eq_getElem hj]; rfl
  rw [← e, Bool.and_eq_true, decide_eq_true_eq]
  refine ⟨by have := preds_row ss j; omega, List.all_eq_true.2 (fun x hx => ?_)⟩
  obtain ⟨m, hm, rfl, _⟩ := (preds_mem ss j x).1 hx
  rw [Bool.and_eq_true, decide_eq_true_eq, decide_eq_true_eq]
  omega
/-- What the walks ask of a graph. -/
structure Gok (ss : List (List Int)) : Prop where
  n64 : ss.length ≤ 64
  rows : ∀ i, i < ss.length → (ss.getD i []).length ≤ 900000
theorem Gok.preds {ss : List (List Int)} (h : Gok ss) : Ev (fun k => cfg_Preds.f k ss) (preds ss) := preds_ev ss h.n64 (fun j hj => by have := h.rows j hj; omega)
def out0 (ss : List (List Int)) (rc : List Bool) : List Nat := ((List.range ss.length).map fun i => if i = 0 ∨ rc.getD i false = false then 0 else allN (ss.length : Int)).set 0 1
theorem out0_IL (ss : List (List Int)) (rc : List Bool) : (dom0 rc (allN (ss.length : Int) : Int) ss.length).set 0 (1 : Int) = IL (out0 ss rc) := by
  unfold dom0 out0
  rw [← IL_set]
  congr 1
  unfold IL
  rw [List.map_map]
  refine List.map_congr_left (fun i _ => ?_)
  show _ = ((if i = 0 ∨ rc.getD i false = false then 0 else allN (ss.length : Int) : Nat) : Int)
  split <;> rfl
theorem out0_fn (ss : List (List Int)) (rc : List Bool) (i : Nat) (hi : i < ss.length) : fn (out0 ss rc) i = if i = 0 then 1 else if rc.getD i false = false then 0 else allN (ss.length : Int) := by
  unfold out0
  rw [fn_set _ _ _ (by rw [List.length_map, List.length_range]; omega)]
  unfold upd
  split
  · rfl
  · rename_i h
    unfold fn
    rw [List.getD_eq_getElem?_getD, List.getElem?_map, List.getElem?_range hi]
    show (if i = 0 ∨ rc.getD i false = false then 0 else allN (ss.length : Int)) = _
    by_cases hr : rc.getD i false = false
    · rw [if_pos (Or.inr hr), if_pos hr]
    · rw [if_neg (fun c => c.elim h hr), if_neg hr]
theorem out0_len (ss : List (List Int)) (rc : List Bool) : (out0 ss rc).length = ss.length := by unfold out0; rw [List.length_set, List.length_map, List.length_range]
theorem fn_big (l : List Nat) (i : Nat) (h : l.length ≤ i) : fn l i = 0 := by
  unfold fn
  rw [List.getD_eq_getElem?_getD, List.getElem?_eq_none h]; rfl
theorem one_bit (d : Nat) : (1 : Nat).testBit d = decide (d = 0) := by
  have := Nat.testBit_two_pow (n := 0) (m := d)
  simpa [eq_comm] using this
theorem out0_ok {ss : List (List Int)} (hg : Gok ss) {rc : List Bool} (hrc : ∀ i, i < ss.length → (rc.getD i false = true ↔ Rch ss i)) : DI ss rc (out0 ss rc) := by
  refine ⟨out0_len ss rc, fun j => ?_, fun i hi d hd => ?_, fun h0 => by rw [out0_fn ss rc 0 h0]; rfl, fun i i0 i1 ir => ?_⟩
  · by_cases hj : j < ss.length
    · rw [out0_fn ss rc j hj]
      split
      · decide
      · split
        · decide
        · exact allN_lt _
    · rw [fn_big _ _ (by rw [out0_len]; omega)]; decide
  · have hil := hi.lt
    have hdl := hd.lt
    rw [out0_fn ss rc i hil]
    split
    · rename_i e
      subst e
      rw [hd.of_zero]; rfl
    · rw [if_neg (by rw [(hrc i hil).2 hi]; decide), allN_bit _ _ (by have := hg.n64; omega)]
      exact decide_eq_true (by omega)
  · rw [out0_fn ss rc i i1, if_neg (by omega), if_neg (by rw [(hrc i i1).2 ir]; decide), le_true]
    intro d hd hb
    rw [allN_bit _ _ hd]
    rcases (nv_bit hrc hg.n64 _ i i1 d hd).1 hb with c | c
    · exact decide_eq_true (by omega)
    · exact decide_eq_true (by omega)
theorem doms_ev {ss : List (List Int)} (hg : Gok ss) : ∃ o : List Nat, Ev (fun k => cfg_Doms.f k ss) (IL o) ∧ o.length = ss.length ∧ (∀ j, fn o j < U) ∧ ∀ i, Rch ss i → ∀ d, d < 64 → ((fn o i).testBit d = true ↔ Dom ss d i) := by
  obtain ⟨rc, h1, h2, h3⟩ := reach_ev ss hg.n64 hg.rows
  obtain ⟨o, o1, o2, o3⟩ := domsR_ev h2 h3 hg.n64 _ (out0 ss rc) (out0_ok hg h3) (Nat.le_refl _)
  refine ⟨o, ?_, o1.len, o1.lt, fun i hi d hd => o1.fix h3 hg.n64 o2 i hi d hd⟩
  unfold cfg_Doms.f
  refine ev_pos hg.n64 (Ev.bind h1 (Ev.bind hg.preds (ev_pos ?_ ?_)))
  · unfold okD
    rw [preds_rows ss hg.n64, decide_eq_true h2, decide_eq_true (preds_len ss)]; rfl
  refine Ev.bind (a := (allN (ss.length : Int) : Int)) (by rw [all_f]; exact Ev.now _) (Ev.bind (a := (1 : Int)) (with_ev [0] (by decide) 0 (by decide)) ?_)
  rw [out0_IL]
  exact ev_diag (f := fun k d => domsR k rc (preds ss) (allN (ss.length : Int) : Int) ss.length d (IL (out0 ss rc))) (fun k d => domsR_up rc _ _ _ k d _) o3
/-! The loops. -/
open Classical in
noncomputable def bodyL (ss : List (List Int)) (h : Nat) : List Int := ((List.range ss.length).filter fun x => decide (InB ss h x)).map fun x : Nat => (x : Int)
open Classical in
noncomputable def loopsFrom (ss : List (List Int)) : Nat → Nat → List S35
  | 0, _ => []
  | d + 1, h => (if Head ss h then [(⟨(h : Int), bodyL ss h⟩ : S35)] else []) ++ loopsFrom ss d (h + 1)
noncomputable def OfN (ss : List (List Int)) : List S35 := loopsFrom ss ss.length 0
section
variable {ss : List (List Int)} (hg : Gok ss) {rc : List Bool} (hrl : rc.length = ss.length) (hrc : ∀ i, i < ss.length → (rc.getD i false = true ↔ Rch ss i)) {o : List Nat} (hol : o.length = ss.length) (ho : ∀ j, fn o j < U) (hd : ∀ i, Rch ss i → ∀ d, d < 64 → ((fn o i).testBit d = true ↔ Dom ss d i))
include hg hrc ho hd in
theorem backs_mem (h : Nat) (hh : h < ss.length) (x : Int) : x ∈ backsI rc (IL o) (preds ss) (h : Int) ↔ ∃ t : Nat, x = (t : Int) ∧ Back ss h t := by
  unfold backsI
  rw [List.mem_filter, Int.toNat_natCast, preds_mem]
  have key : ∀ m : Nat, m < ss.length → ((!backB rc (IL o) (h : Int) (m : Int)) = true ↔ Rch ss m ∧ Dom ss h m) := fun m hm => by
    unfold backB
    rw [Int.toNat_natCast, Bool.not_or, Bool.not_not, Bool.not_not, Bool.and_eq_true, hrc m hm]
    refine and_congr_right (fun hr => ?_)
    have e : hasI (rd (IL o) (m : Int)) (h : Int) = (decide (0 ≤ (h : Int) ∧ (h : Int) < 64) && (fn o m).testBit (h : Int).toNat) := by
      unfold hasI
      rw [IL_rd, has_f _ (ho m)]; rfl
    have h64 : h < 64 := by have := hg.n64; omega
    rw [e, decide_eq_true (by omega), Bool.true_and, Int.toNat_natCast]
    exact hd m hr h h64
  constructor
  · rintro ⟨⟨m, hm, rfl, he, _⟩, hb⟩
    exact ⟨m, rfl, ⟨hm, hh, he⟩, ((key m hm).1 hb).2⟩
  · rintro ⟨t, rfl, he, hdm⟩
    exact ⟨⟨t, he.1, rfl, he.2.2, hh⟩, (key t he.1).2 ⟨hdm.1, hdm⟩⟩
structure BI (ss : List (List Int)) (h s : Nat) (l : List Int) : Prop where
  lt : s < U
  hd : s.testBit h = true
  sound : ∀ x, s.testBit x = true → InB ss h x
  stk : ∀ x ∈ l, 0 ≤ x ∧ x < (ss.length : Int) ∧ (Rch ss x.toNat → InB ss h x.toNat)
  src : ∀ t, Back ss h t → s.testBit t = true ∨ (t : Int) ∈ l
  closed : ∀ y, s.testBit y = true → y ≠ h → ∀ x, Edge ss x y → Rch ss x → s.testBit x = true ∨ (x : Int) ∈ l
theorem BI.done {h s : Nat} (k : BI ss h s []) (x : Nat) : s.testBit x = true ↔ InB ss h x := by
  refine ⟨k.sound x, fun hx => ?_⟩
  induction hx with
  | head => exact k.hd
  | src b => exact (k.src _ b).elim id (fun c => by cases c)
  | pred _ hne e hr ih => exact (k.closed _ ih hne _ e hr).elim id (fun c => by cases c)
theorem bodyR_up (rc : List Bool) (ps : List (List Int)) (n kk : Nat) : ∀ (k : Nat) (s : Int) (l : List Int), LeO (bodyR kk rc ps n k s l) (bodyR kk rc ps n (k + 1) s l)
  | 0, _, _ => fun r h => by cases h
  | k + 1, s, l => LeO.ite (LeO.refl _) (LeO.ite (LeO.ite (LeO.ite (bodyR_up rc ps n kk k _ _) (LeO.bind (LeO.refl _) (fun s' => bodyR_up rc ps n kk k _ _))) (LeO.refl _)) (LeO.refl _))
theorem body_m {a b q l m : Nat} (hc : a + 1 ≤ b) (hr : l ≤ 65) (hle : b * 70 + (q + 1) ≤ m + 1) : a * 70 + (q + l) ≤ m := by omega
include hg hrl hrc in
theorem bodyR_ev (h : Nat) (hh : h < ss.length) : ∀ (m s : Nat) (l : List Int), m ≤ 900000 → remN false s * 70 + l.length ≤ m → BI ss h s l →
    ∃ r : Nat, r < U ∧ (∀ x, r.testBit x = true ↔ InB ss h x) ∧ Ev (fun k => bodyR k rc (preds ss) ss.length (m + 1) (s : Int) l) (r : Int) := by
  intro m
  induction m with
  | zero =>
    intro s l hm hle k
    obtain rfl : l = [] := List.eq_nil_of_length_eq_zero (by omega)
    refine ⟨s, k.lt, k.done, ?_⟩
    simp only [bodyR]
    exact ev_pos rfl (Ev.now _)
  | succ m ih =>
    intro s l hm hle k
    rcases List.eq_nil_or_concat l with rfl | ⟨q, x, rfl⟩
    · refine ⟨s, k.lt, k.done, ?_⟩
      simp only [bodyR]
      exact ev_pos rfl (Ev.now _)
    rw [List.concat_eq_append] at *
    have hlen : (q ++ [x]).length = q.length + 1 := by simp
    rw [hlen] at hle
    obtain ⟨x0, x1, x2⟩ := k.stk x (List.mem_append.2 (.inr (List.mem_singleton.2 rfl)))
    have hx : (q ++ [x]).getD ((q ++ [x]).length - 1) 0 = x := by
      rw [hlen, Nat.add_sub_cancel, List.getD_eq_getElem?_getD]; simp
    have ht : (q ++ [x]).take ((q ++ [x]).length - 1) = q := by rw [hlen, Nat.add_sub_cancel]; exact List.take_left
    have hn := hg.n64
    have hhas : hasI (s : Int) x = s.testBit x.toNat := by
      unfold hasI
      rw [has_f s k.lt x, decide_eq_true (by omega), Bool.true_and]; rfl
    have hstep : ∀ r : Int, Ev (fun kk => if hasI (s : Int) x = true ∨ rc.getD x.toNat false = false then bodyR kk rc (preds ss) ss.length (m + 1) (s : Int) q else (bits_With.f kk (s : Int) [x]).bind fun s' => bodyR kk rc (preds ss) ss.length (m + 1) s' (q ++ (preds ss).getD x.toNat [])) r → Ev (fun kk => bodyR kk rc (preds ss) ss.length (m + 1 + 1) (s : Int) (q ++ [x])) r := fun r hr => by
      refine Ev.congr (fun kk => ?_) hr
      rw [show bodyR kk rc (preds ss) ss.length (m + 1 + 1) (s : Int) (q ++ [x]) = (if (q ++ [x]).length = 0 then some (s : Int) else if (q ++ [x]).length ≤ 1000000 then (if 0 ≤ (q ++ [x]).getD ((q ++ [x]).length - 1) 0 ∧ (q ++ [x]).getD ((q ++ [x]).length - 1) 0 < (ss.length : Int) then (if hasI (s : Int) ((q ++ [x]).getD ((q ++ [x]).length - 1) 0) = true ∨ rc.getD ((q ++ [x]).getD ((q ++ [x]).length - 1) 0).toNat false = false then bodyR kk rc (preds ss) ss.length (m + 1) (s : Int) ((q ++ [x]).take ((q ++ [x]).length - 1)) else (bits_With.f kk (s : Int) [(q ++ [x]).getD ((q ++ [x]).length - 1) 0]).bind fun s' => bodyR kk rc (preds ss) ss.length (m + 1) s' ((q ++ [x]).take ((q ++ [x]).length - 1) ++ (preds ss).getD ((q ++ [x]).getD ((q ++ [x]).length - 1) 0).toNat [])) else none) else none) from rfl]
      rw [hx, ht, if_neg (by omega), if_pos (by omega), if_pos ⟨x0, x1⟩]
    by_cases hc : hasI (s : Int) x = true ∨ rc.getD x.toNat false = false
    · have hin : Rch ss x.toNat → s.testBit x.toNat = true := fun hr => by
        rcases hc with c | c
        · rwa [hhas] at c
        · rw [(hrc x.toNat (by omega)).2 hr] at c; cases c
      have mem : ∀ y : Nat, Rch ss y → s.testBit y = true ∨ (y : Int) ∈ q ++ [x] → s.testBit y = true ∨ (y : Int) ∈ q := fun y hy c => by
        rcases c with c | c
        · exact .inl c
        · rcases List.mem_append.1 c with c | c
          · exact .inr c
          · have c := List.mem_singleton.1 c
            have e : x.toNat = y := by omega
            rw [e] at hin
            exact .inl (hin hy)
      obtain ⟨r, r1, r2, r3⟩ := ih s q (by omega) (by omega) ⟨k.lt, k.hd, k.sound, fun y hy => k.stk y (List.mem_append.2 (.inl hy)), fun t ht => mem t ht.2.1 (k.src t ht), fun y hy hne z he hz => mem z hz (k.closed y hy hne z he hz)⟩
      exact ⟨r, r1, r2, hstep r (ev_pos hc r3)⟩
    · have hb : ¬ s.testBit x.toNat = true := fun c => hc (.inl (by rw [hhas]; exact c))
      have hr : Rch ss x.toNat := (hrc x.toNat (by omega)).1 (by
        cases hq : rc.getD x.toNat false with
        | true => rfl
        | false => exact absurd (.inr hq) hc)
      have hbit : ∀ y, y < 64 → ((withN s [x]).testBit y = true ↔ s.testBit y = true ∨ y = x.toNat) := fun y hy => by
        rw [with_bit _ _ _ hy, Bool.or_eq_true]
        refine or_congr Iff.rfl ?_
        simp
        omega
      have hbig : ∀ y, (withN s [x]).testBit y = true → y < 64 := fun y hy => by
        refine Classical.byContradiction (fun c => ?_)
        rw [bit_hi (with_lt [x] s k.lt) (by omega)] at hy
        cases hy
      have hbs : ∀ y, s.testBit y = true → y < 64 := fun y hy => by
        refine Classical.byContradiction (fun c => ?_)
        rw [bit_hi k.lt (by omega)] at hy
        cases hy
      have hxh : x.toNat ≠ h := fun c => hb (by rw [c]; exact k.hd)
      have hrem : remN false (withN s [x]) + 1 ≤ remN false s := by
        refine remN_lt k.lt (with_lt [x] s k.lt) (fun i hi => ?_) (fun e => ?_)
        · simp only [Bool.false_eq_true, if_false]
          exact fun c => (hbit i hi).2 (.inl c)
        · have := (hbit x.toNat (by omega)).2 (.inr rfl)
          rw [← e] at this
          exact hb this
      have hrow := preds_row ss x.toNat
      have h64 : h < 64 := by omega
      obtain ⟨r, r1, r2, r3⟩ := ih (withN s [x]) (q ++ (preds ss).getD x.toNat []) (by omega) (by rw [List.length_append]; exact body_m hrem (by omega) hle) (by
        refine ⟨with_lt [x] s k.lt, (hbit h h64).2 (.inl k.hd), fun y hy => ?_, fun y hy => ?_, fun t ht => ?_, fun y hy hne z he hz => ?_⟩
        · rcases (hbit y (hbig y hy)).1 hy with c | c
          · exact k.sound y c
          · rw [c]; exact x2 hr
        · rcases List.mem_append.1 hy with hy | hy
          · exact k.stk y (List.mem_append.2 (.inl hy))
          · obtain ⟨p, hp, rfl, he, _⟩ := (preds_mem ss x.toNat y).1 hy
            refine ⟨by omega, by omega, fun hpr => ?_⟩
            rw [Int.toNat_natCast] at hpr ⊢
            exact .pred (x2 hr) hxh ⟨hp, by omega, he⟩ hpr
        · rcases k.src t ht with c | c
          · exact .inl ((hbit t (hbs t c)).2 (.inl c))
          · rcases List.mem_append.1 c with c | c
            · exact .inr (List.mem_append.2 (.inl c))
            · have c := List.mem_singleton.1 c
              have hl := ht.2.1.lt
              exact .inl ((hbit t (by omega)).2 (.inr (by omega)))
        · have hzl := hz.lt
          rcases (hbit y (hbig y hy)).1 hy with c | c
          · rcases k.closed y c hne z he hz with c2 | c2
            · exact .inl ((hbit z (hbs z c2)).2 (.inl c2))
            · rcases List.mem_append.1 c2 with c2 | c2
              · exact .inr (List.mem_append.2 (.inl c2))
              · have c2 := List.mem_singleton.1 c2
                exact .inl ((hbit z (by omega)).2 (.inr (by omega)))
          · refine .inr (List.mem_append.2 (.inr ((preds_mem ss x.toNat _).2 ⟨z, he.1, rfl, ?_, by omega⟩)))
            rw [← c]
            exact he.2.2)
      exact ⟨r, r1, r2, hstep r (ev_neg hc (Ev.bind (with_ev [x] (by simp) s k.lt) r3))⟩
open Classical in
theorem nints_body {ss : List (List Int)} (hn : ss.length ≤ 64) {h r : Nat} (hh : Rch ss h) (hr : ∀ x, r.testBit x = true ↔ InB ss h x) : It.nints r = bodyL ss h := by
  unfold It.nints bodyL
  congr 1
  unfold Pl.bnums
  obtain ⟨m, hm⟩ : ∃ m, 64 = ss.length + m := ⟨64 - ss.length, by omega⟩
  rw [hm, List.range_add, List.filter_append]
  have e2 : ((List.range m).map (fun x => ss.length + x)).filter r.testBit = [] := by
    rw [List.filter_eq_nil_iff]
    intro x hx
    obtain ⟨y, _, rfl⟩ := List.mem_map.1 hx
    intro c
    have := ((hr _).1 c).dom hh
    have := this.1.lt
    omega
  rw [e2, List.append_nil]
  refine List.filter_congr (fun x _ => ?_)
  rw [Bool.eq_iff_iff, decide_eq_true_iff]
  exact hr x
include hg hrl hrc hol ho hd in
theorem ofR_ev : ∀ (d h : Nat) (out : List S35), h + d = ss.length → Ev (fun k => ofR k rc (IL o) (preds ss) ss.length d h out) (out ++ loopsFrom ss d h)
  | 0, h, out, _ => by
    simp only [ofR, loopsFrom, List.append_nil]
    exact Ev.now _
  | d + 1, h, out, he => by
    have hh : h < ss.length := by omega
    have hm := backs_mem hg hrc ho hd h hh
    simp only [ofR, loopsFrom]
    by_cases hl : (backsI rc (IL o) (preds ss) (h : Int)).length = 0
    · have hnh : ¬ Head ss h := fun ⟨t, ht⟩ => by
        have := (hm (t : Int)).2 ⟨t, rfl, ht⟩
        rw [List.eq_nil_of_length_eq_zero hl] at this
        cases this
      rw [if_neg hnh, List.nil_append]
      exact ev_pos hl (ofR_ev d (h + 1) out (by omega))
    · have hhd : Head ss h := by
        obtain ⟨x, hx⟩ := List.exists_mem_of_length_pos (Nat.pos_of_ne_zero hl)
        obtain ⟨t, _, ht⟩ := (hm x).1 hx
        exact ⟨t, ht⟩
      rw [if_pos hhd]
      refine ev_neg hl (Ev.bind (with_ev [(h : Int)] (by simp) 0 (by decide)) ?_)
      have h64 : h < 64 := by have := hg.n64; omega
      have hbit : ∀ y, (withN 0 [(h : Int)]).testBit y = true ↔ y = h := fun y => by
        by_cases hy : y < 64
        · rw [with_bit _ _ _ hy]; simp; omega
        · rw [bit_hi (with_lt [(h : Int)] 0 (by decide)) (by omega)]
          constructor
          · intro c; cases c
          · intro c; omega
      have hll : (backsI rc (IL o) (preds ss) (h : Int)).length ≤ 65 := by
        unfold backsI
        have := preds_row ss h
        have := hg.n64
        have h2 := List.length_filter_le (fun x => !backB rc (IL o) (h : Int) x) ((preds ss).getD ((h : Int)).toNat [])
        rw [Int.toNat_natCast] at h2 ⊢
        omega
      have hrem := remN_le false (withN 0 [(h : Int)])
      obtain ⟨r, r1, r2, r3⟩ := bodyR_ev hg hrl hrc h hh 10000 (withN 0 [(h : Int)]) (backsI rc (IL o) (preds ss) (h : Int)) (by omega) (by omega) ⟨with_lt [(h : Int)] 0 (by decide), (hbit h).2 rfl, fun x hx => by rw [(hbit x).1 hx]; exact .head, fun x hx => by
          obtain ⟨t, rfl, ht⟩ := (hm x).1 hx
          have := ht.1.1
          refine ⟨by omega, by omega, fun _ => ?_⟩
          rw [Int.toNat_natCast]
          exact .src ht, fun t ht => .inr ((hm _).2 ⟨t, rfl, ht⟩), fun y hy hne => absurd ((hbit y).1 hy) hne⟩
      have r3 := ev_diag (f := fun k d => bodyR k rc (preds ss) ss.length d ((withN 0 [(h : Int)] : Nat) : Int) (backsI rc (IL o) (preds ss) (h : Int))) (fun k d => bodyR_up rc _ _ k d _ _) r3
      refine Ev.bind r3 (Ev.bind (a := It.nints r) ?_ ?_)
      · unfold bits_List.f
        exact ev_pos (by omega) (ev_pos (by have : r < 18446744073709551616 := r1; omega) (by rw [Int.toNat_natCast]; exact Ev.now _))
      · rw [nints_body hg.n64 hhd.rch r2, ← List.append_assoc]
        exact ofR_ev d (h + 1) _ (by omega)
end
theorem of_ev {ss : List (List Int)} (hg : Gok ss) : Ev (fun k => loop_Of.f k ss) (OfN ss) := by
  obtain ⟨rc, h1, h2, h3⟩ := reach_ev ss hg.n64 hg.rows
  obtain ⟨o, o1, o2, o3, o4⟩ := doms_ev hg
  unfold loop_Of.f
  refine ev_pos hg.n64 (Ev.bind hg.preds (Ev.bind o1 (Ev.bind h1 (ev_pos ?_ ?_))))
  · unfold okD
    rw [preds_rows ss hg.n64, decide_eq_true h2, decide_eq_true (preds_len ss), IL_len, decide_eq_true o2]; rfl
  · have := ofR_ev hg h2 h3 o2 o3 o4 ss.length 0 [] (by omega)
    rw [List.nil_append] at this
    exact this
end Go.Proofs.YtbnkeddnibjncaaDoor.Th
