import Derived.Test.YtkkhjfkgfmodnaaPx3
import Derived.Test.YtkkhjfkgfmodnaaEV
import Derived.Test.YtkkhjfkgfmodnaaPx10
namespace Go.Proofs.Ytkkhjfkgfmodnaa.Pure
open Go Go.RowKit Go.Proofs.Ytkkhjfkgfmodnaa.P Go.Proofs.Ytkkhjfkgfmodnaa.Opn Go.Proofs.YtkkhjfkgfmodnaaW.PrintWords Go.Proofs.YtkkhjfkgfmodnaaW.PrintLast Go.Proofs.YtkkhjfkgfmodnaaW.PrintMore
/-! The document's Sound is the program's. -/
theorem row_tab : ((List.range 256).all fun n => interlockref02_row.f 3 (n : Int) == some [(shpAt (n : Int)).w 0, (shpAt (n : Int)).w 1, (shpAt (n : Int)).w 2]) = true := by kernel_rfl
theorem row_ev (n : Nat) (hn : n ≤ 255) : Ev (fun k => interlockref02_row.f k (n : Int)) [(shpAt (n : Int)).w 0, (shpAt (n : Int)).w 1, (shpAt (n : Int)).w 2] :=
  Ev.of (interlockref02_row.mono _) (k := 3) (eq_of_beq (List.all_eq_true.1 row_tab n (List.mem_range.2 (by omega))))
theorem w_tab : ((List.range 256).all fun n => (List.range 3).all fun j => decide (0 ≤ (shpAt (n : Int)).w j) && decide ((shpAt (n : Int)).w j ≤ 11)) = true := by kernel_rfl
theorem w_le (n j : Nat) (hn : n ≤ 255) (hj : j < 3) : 0 ≤ (shpAt (n : Int)).w j ∧ (shpAt (n : Int)).w j ≤ 11 := by
  have h := List.all_eq_true.1 (List.all_eq_true.1 w_tab n (List.mem_range.2 (by omega))) j (List.mem_range.2 hj)
  simpa using h
section
variable (V A L G O : Int) (ch : List Int) (th : List (List S30)) (len : Nat)
theorem many_ev (hlen : len ≤ 140737488355328) (w : Int) (h0 : 2 ≤ w) (h1 : w ≤ 11) : ∃ m, P.look (lims V A L ch.length G O th.length (len : Int)) w = some m ∧ Ev (fun k => interlockref02_many.f k V A L ch G O th w (len : Int)) m := by
  have hl : wrap64 ((len : Int) + 1) = (len : Int) + 1 := w64 (by omega) (by omega)
  have hc : w = 2 ∨ w = 3 ∨ w = 4 ∨ w = 5 ∨ w = 6 ∨ w = 7 ∨ w = 8 ∨ w = 9 ∨ w = 10 ∨ w = 11 := by omega
  rcases hc with rfl | rfl | rfl | rfl | rfl | rfl | rfl | rfl | rfl | rfl <;> refine ⟨_, rfl, Ev.of (interlockref02_many.mono _ _ _ _ _ _ _ _ _) (k := 2) ?_⟩ <;> first | rfl | (rw [← hl]; rfl)
theorem look_none {w : Int} (h : w = 0 ∨ w = 1) (n : Int) : P.look (lims V A L ch.length G O th.length n) w = none := by
  rcases h with rfl | rfl <;> rfl
variable (op : Nat) (n0 n1 n2 : Int)
theorem rd3 (a b c : Int) (j : Nat) (hj : j < 3) : rd [a, b, c] (j : Int) = xyz a b c j := by
  rcases (by omega : j = 0 ∨ j = 1 ∨ j = 2) with rfl | rfl | rfl <;> rfl
theorem xyz_w (s : Shp) (j : Nat) (hj : j < 3) : xyz (s.w 0) (s.w 1) (s.w 2) j = s.w j := by
  rcases (by omega : j = 0 ∨ j = 1 ∨ j = 2) with rfl | rfl | rfl <;> rfl
theorem rl1_step (hlen : len ≤ 140737488355328) (hop : op ≤ 255) (j : Nat) (hj : j < 3) (R : Int)
    (hR : Ev (fun k => interlockref02_ins.l1 k (len : Int) [(shpAt op).w 0, (shpAt op).w 1, (shpAt op).w 2] [n0, n1, n2] ((j + 1 : Nat) : Int) V A L ch G O th) R) :
    Ev (fun k => interlockref02_ins.l1 k (len : Int) [(shpAt op).w 0, (shpAt op).w 1, (shpAt op).w 2] [n0, n1, n2] (j : Int) V A L ch G O th)
      (if bad2 (P.look (lims V A L ch.length G O th.length (len : Int)) ((shpAt op).w j)) ((shpAt op).w j) (xyz n0 n1 n2 j) = true then 21 else R) := by
  have hw := w_le op j hop hj
  have e7 : rd [(shpAt op).w 0, (shpAt op).w 1, (shpAt op).w 2] (j : Int) = (shpAt op).w j := by rw [rd3 _ _ _ j hj, xyz_w _ j hj]
  have e8 : rd [n0, n1, n2] (j : Int) = xyz n0 n1 n2 j := rd3 _ _ _ j hj
  have ej : wrap64 ((j : Int) + 1) = ((j + 1 : Nat) : Int) := by rw [w64 (by omega) (by omega)]; rfl
  generalize xyz n0 n1 n2 j = x at e8 ⊢
  have hl7 : (([(shpAt op).w 0, (shpAt op).w 1, (shpAt op).w 2] : List Int).length : Int) = 3 := rfl
  have hl8 : (([n0, n1, n2] : List Int).length : Int) = 3 := rfl
  generalize (shpAt op).w j = wd at hw e7 ⊢
  generalize [(shpAt op).w 0, (shpAt op).w 1, (shpAt op).w 2] = l7 at e7 hl7 hR ⊢
  generalize [n0, n1, n2] = l8 at e8 hl8 hR ⊢
  by_cases hn : wd = 0 ∨ wd = 1
  · rw [look_none V A L G O ch th hn]
    have hb : bad2 none wd x = false := by
      rcases hn with rfl | rfl <;> rfl
    rw [hb, if_neg (by decide)]
    refine Ev.step (f := fun k => interlockref02_ins.j2 k (len : Int) l7 l8 (j : Int) true V A L ch G O th) (fun k => ?_) (Ev.step (fun k => ?_) hR)
    · simp only [interlockref02_ins.l1]
      rw [if_pos (by omega), if_pos (by omega), if_pos (by omega), e7]
      rcases hn with h | h
      · rw [if_pos h]
      · rw [if_neg (by omega), h]; rfl
    · simp only [interlockref02_ins.j2]
      rw [if_pos trivial, ej]
  · obtain ⟨m, e1, e2⟩ := many_ev V A L G O ch th len hlen wd (by omega) hw.2
    rw [e1]
    have hb : (bad2 (some m) wd x = true) ↔ (x < 0 ∨ m ≤ x) ∨ (wd = 6 ∧ x = 0) := by simp [bad2]
    refine Ev.step (f := fun k => interlockref02_ins.j2 k (len : Int) l7 l8 (j : Int) false V A L ch G O th) (fun k => ?_) (Ev.step (f := fun k => if x < 0 then some 21 else (interlockref02_many.f k V A L ch G O th wd (len : Int)).bind fun t => (if x ≥ t then (some 21) else (if wd = 6 then (if x = 0 then (some 21) else (interlockref02_ins.l1 k (len : Int) l7 l8 ((j + 1 : Nat) : Int) V A L ch G O th)) else (interlockref02_ins.l1 k (len : Int) l7 l8 ((j + 1 : Nat) : Int) V A L ch G O th)))) (fun k => ?_) ?_)
    · simp only [interlockref02_ins.l1]
      rw [if_pos (by omega), if_pos (by omega), if_pos (by omega), e7, if_neg (by omega), beq_eq_false_iff_ne.2 (by omega)]
    · simp only [interlockref02_ins.j2]
      rw [if_neg (by decide), if_pos (by omega), if_pos (by omega), e7, e8]
      by_cases h : x < 0
      · rw [if_pos h, if_pos h]
      · rw [if_neg h, if_neg h, if_pos (by omega), ej]
    · by_cases h1 : x < 0
      · rw [if_pos (hb.2 (Or.inl (Or.inl h1)))]
        exact ev_pos h1 (Ev.now 21)
      · refine ev_neg h1 (Ev.bind e2 ?_)
        by_cases h2 : x ≥ m
        · rw [if_pos (hb.2 (Or.inl (Or.inr h2)))]
          exact ev_pos h2 (Ev.now 21)
        · refine ev_neg h2 ?_
          by_cases h3 : wd = 6
          · refine ev_pos h3 ?_
            by_cases h4 : x = 0
            · rw [if_pos (hb.2 (Or.inr ⟨h3, h4⟩))]
              exact ev_pos h4 (Ev.now 21)
            · rw [if_neg (fun h => by rcases hb.1 h with h | h <;> omega)]
              exact ev_neg h4 hR
          · rw [if_neg (fun h => by rcases hb.1 h with h | h <;> omega)]
            exact ev_neg h3 hR
theorem rl0_step (hop : op ≤ 255) (j : Nat) (hj : j < 3) (R : Int)
    (hR : Ev (fun k => interlockref02_ins.l0 k (len : Int) [(shpAt op).w 0, (shpAt op).w 1, (shpAt op).w 2] [n0, n1, n2] ((j + 1 : Nat) : Int) V A L ch G O th (op : Int) n0 n1 n2) R) :
    Ev (fun k => interlockref02_ins.l0 k (len : Int) [(shpAt op).w 0, (shpAt op).w 1, (shpAt op).w 2] [n0, n1, n2] (j : Int) V A L ch G O th (op : Int) n0 n1 n2)
      (if bad1 (decide ((op : Int) < 28)) ((shpAt op).w j) (xyz n0 n1 n2 j) = true then 20 else R) := by
  have e7 : rd [(shpAt op).w 0, (shpAt op).w 1, (shpAt op).w 2] (j : Int) = (shpAt op).w j := by rw [rd3 _ _ _ j hj, xyz_w _ j hj]
  have e8 : rd [n0, n1, n2] (j : Int) = xyz n0 n1 n2 j := rd3 _ _ _ j hj
  have ej : wrap64 ((j : Int) + 1) = ((j + 1 : Nat) : Int) := by rw [w64 (by omega) (by omega)]; rfl
  generalize xyz n0 n1 n2 j = x at e8 ⊢
  have hl7 : (([(shpAt op).w 0, (shpAt op).w 1, (shpAt op).w 2] : List Int).length : Int) = 3 := rfl
  have hl8 : (([n0, n1, n2] : List Int).length : Int) = 3 := rfl
  generalize (shpAt op).w j = wd at e7 ⊢
  generalize [(shpAt op).w 0, (shpAt op).w 1, (shpAt op).w 2] = l7 at e7 hl7 hR ⊢
  generalize [n0, n1, n2] = l8 at e8 hl8 hR ⊢
  by_cases hq : op < 28
  · rw [decide_eq_true (show (op : Int) < 28 by omega)]
    have hb : (bad1 true wd x = true) ↔ (wd = 0 ∧ x ≠ 0) := by simp [bad1]
    by_cases h0 : wd = 0
    · by_cases hx : x = 0
      · rw [if_neg (fun h => (hb.1 h).2 hx)]
        refine Ev.step (fun k => ?_) hR
        simp only [interlockref02_ins.l0]
        rw [if_pos (by omega), if_neg (by omega), if_pos (by omega), if_pos (by omega), e7, if_pos h0, if_pos (by omega), e8, if_pos hx, ej]
      · rw [if_pos (hb.2 ⟨h0, hx⟩)]
        refine Ev.step (fun k => ?_) (Ev.now 20)
        simp only [interlockref02_ins.l0]
        rw [if_pos (by omega), if_neg (by omega), if_pos (by omega), if_pos (by omega), e7, if_pos h0, if_pos (by omega), e8, if_neg hx]
    · rw [if_neg (fun h => h0 (hb.1 h).1)]
      refine Ev.step (fun k => ?_) hR
      simp only [interlockref02_ins.l0]
      rw [if_pos (by omega), if_neg (by omega), if_pos (by omega), if_pos (by omega), e7, if_neg h0, ej]
  · rw [decide_eq_false (show ¬ (op : Int) < 28 by omega), if_pos (by rfl)]
    refine Ev.step (fun k => ?_) (Ev.now 20)
    simp only [interlockref02_ins.l0]
    rw [if_pos (by omega), if_pos (by omega)]
theorem rins_ev (hlen : len ≤ 140737488355328) (hop : op ≤ 255) :
    Ev (fun k => interlockref02_ins.f k V A L ch G O th (op : Int) n0 n1 n2 (len : Int)) (insRes (lims V A L ch.length G O th.length (len : Int)) ⟨(op : Int), n0, n1, n2⟩) := by
  refine Ev.bind (row_ev op hop) (Ev.bind (Ev.now [n0, n1, n2]) ?_)
  have a3 : Ev (fun k => interlockref02_ins.l1 k (len : Int) [(shpAt op).w 0, (shpAt op).w 1, (shpAt op).w 2] [n0, n1, n2] ((2 + 1 : Nat) : Int) V A L ch G O th) 0 := Ev.step (fun k => by simp only [interlockref02_ins.l1]; exact if_neg (by decide)) (Ev.now 0)
  have a0 := rl1_step V A L G O ch th len op n0 n1 n2 hlen hop 0 (by omega) _ (rl1_step V A L G O ch th len op n0 n1 n2 hlen hop 1 (by omega) _ (rl1_step V A L G O ch th len op n0 n1 n2 hlen hop 2 (by omega) _ a3))
  have b3 : Ev (fun k => interlockref02_ins.l0 k (len : Int) [(shpAt op).w 0, (shpAt op).w 1, (shpAt op).w 2] [n0, n1, n2] ((2 + 1 : Nat) : Int) V A L ch G O th (op : Int) n0 n1 n2) _ := Ev.step (fun k => by simp only [interlockref02_ins.l0]; exact if_neg (by decide)) a0
  have b0 := rl0_step V A L G O ch th len op n0 n1 n2 hop 0 (by omega) _ (rl0_step V A L G O ch th len op n0 n1 n2 hop 1 (by omega) _ (rl0_step V A L G O ch th len op n0 n1 n2 hop 2 (by omega) _ b3))
  have e : insRes (lims V A L ch.length G O th.length (len : Int)) ⟨(op : Int), n0, n1, n2⟩ = _ := (show _ = (if any1 (decide ((op : Int) < 28)) (shpAt (op : Int)) (xyz n0 n1 n2) 3 = true then (20 : Int) else if any2 (lims V A L ch.length G O th.length (len : Int)) (shpAt (op : Int)) (xyz n0 n1 n2) 3 = true then 21 else 0) from rfl)
  rw [e]
  refine Eq.mp ?_ b0
  congr 1
  simp only [any1, any2, Bool.false_or, Bool.or_eq_true]
  generalize bad1 (decide ((op : Int) < 28)) ((shpAt op).w 0) (xyz n0 n1 n2 0) = p0
  generalize bad1 (decide ((op : Int) < 28)) ((shpAt op).w 1) (xyz n0 n1 n2 1) = p1
  generalize bad1 (decide ((op : Int) < 28)) ((shpAt op).w 2) (xyz n0 n1 n2 2) = p2
  generalize bad2 (P.look (lims V A L ch.length G O th.length (len : Int)) _) ((shpAt op).w 0) (xyz n0 n1 n2 0) = q0
  generalize bad2 (P.look (lims V A L ch.length G O th.length (len : Int)) _) ((shpAt op).w 1) (xyz n0 n1 n2 1) = q1
  generalize bad2 (P.look (lims V A L ch.length G O th.length (len : Int)) _) ((shpAt op).w 2) (xyz n0 n1 n2 2) = q2
  cases p0 <;> cases p1 <;> cases p2 <;> cases q0 <;> cases q1 <;> cases q2 <;> rfl
end
end Go.Proofs.Ytkkhjfkgfmodnaa.Pure
