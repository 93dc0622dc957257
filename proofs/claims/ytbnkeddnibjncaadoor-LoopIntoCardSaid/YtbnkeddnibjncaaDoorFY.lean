import Derived.Test.YtbnkeddnibjncaaDoorFX
namespace Go.Proofs.YtbnkeddnibjncaaDoor.Th
set_option linter.unusedVariables false
open Go Go.RowKit Go.Proofs.YtbnkeddnibjncaaDoor.P Go.Proofs.YtbnkeddnibjncaaDoor.Opn Go.Proofs.YtbnkeddnibjncaaDoorW.PrintWords Go.Proofs.YtbnkeddnibjncaaDoorW.PrintLast Go.Proofs.YtbnkeddnibjncaaDoorW.PrintMore
/-! The row of places that wait: it comes to the solution. -/
def fn (l : List Nat) : Nat → Nat := fun k => l.getD k 0
theorem fn_set (l : List Nat) (i v : Nat) (hi : i < l.length) : fn (l.set i v) = upd (fn l) i v := by
  funext j
  unfold fn upd
  simp only [List.getD_eq_getElem?_getD, List.getElem?_set]
  by_cases e : i = j
  · subst e; simp [hi]
  · rw [if_neg e, if_neg (fun h => e h.symm)]
abbrev WQ := List Bool × List Nat
def pushN (i : Nat) (s : WQ) : WQ := if s.1.getD i false = true then s else (s.1.set i true, s.2 ++ [i])
def lookN (S : Sys) (tos : Nat → List Nat) (i : Nat) (ins outs : List Nat) (s : WQ) : List Nat × List Nat × WQ :=
  if S.out (fn outs) i = fn outs i then (ins.set i (S.inn (fn outs) i), outs, s)
  else (ins.set i (S.inn (fn outs) i), outs.set i (S.out (fn outs) i), (tos i).foldl (fun s k => pushN k s) s)
def solveN (S : Sys) (tos : Nat → List Nat) : Nat → List Nat → List Nat → List Bool → List Nat → Option (List Nat × List Nat)
  | 0, _, _, _, _ => none
  | k + 1, ins, outs, ws, q => match q with
    | [] => some (ins, outs)
    | i :: q => solveN S tos k (lookN S tos i ins outs (ws.set i false, q)).1 (lookN S tos i ins outs (ws.set i false, q)).2.1 (lookN S tos i ins outs (ws.set i false, q)).2.2.1 (lookN S tos i ins outs (ws.set i false, q)).2.2.2
/-- The row and the marks agree. -/
structure WQok (n : Nat) (s : WQ) : Prop where
  len : s.1.length = n
  lt : ∀ i ∈ s.2, i < n
  nd : s.2.Nodup
  iff : ∀ i, i < n → (s.1.getD i false = true ↔ i ∈ s.2)
theorem getD_setB (l : List Bool) (a j : Nat) (v : Bool) : (l.set a v).getD j false = if a = j ∧ j < l.length then v else l.getD j false := by
  simp only [List.getD_eq_getElem?_getD, List.getElem?_set]
  by_cases h : a = j
  · subst h
    by_cases h2 : a < l.length
    · simp [h2]
    · simp [h2]
  · simp [h]
theorem WQok.push {n : Nat} {s : WQ} (h : WQok n s) {i : Nat} (hi : i < n) : WQok n (pushN i s) := by
  unfold pushN
  split
  · exact h
  · rename_i hw
    have hni : i ∉ s.2 := fun hm => hw ((h.iff i hi).2 hm)
    refine ⟨by rw [List.length_set]; exact h.len, fun j hj => ?_, ?_, fun j hj => ?_⟩
    · rcases List.mem_append.1 hj with hj | hj
      · exact h.lt j hj
      · rw [List.mem_singleton.1 hj]; exact hi
    · rw [List.nodup_append]
      exact ⟨h.nd, by simp, fun a ha b hb e => by rw [List.mem_singleton.1 hb] at e; rw [e] at ha; exact hni ha⟩
    · show (s.1.set i true).getD j false = true ↔ j ∈ s.2 ++ [i]
      rw [getD_setB, List.mem_append, List.mem_singleton]
      by_cases e : i = j
      · subst e; rw [if_pos ⟨rfl, by rw [h.len]; exact hi⟩]; simp
      · rw [if_neg (fun c => e c.1), h.iff j hj]
        exact ⟨.inl, fun c => c.elim id (fun c => absurd c.symm e)⟩
theorem push_keep (i : Nat) (s : WQ) (j : Nat) (h : s.1.getD j false = true) : (pushN i s).1.getD j false = true := by
  unfold pushN
  split
  · exact h
  · rw [getD_setB]; split
    · rfl
    · exact h
theorem push_at {n : Nat} {s : WQ} (hl : s.1.length = n) {i : Nat} (hi : i < n) : (pushN i s).1.getD i false = true := by
  unfold pushN
  split
  · assumption
  · rw [getD_setB, if_pos ⟨rfl, by rw [hl]; exact hi⟩]
theorem pushes_ok {n : Nat} : ∀ (l : List Nat) (s : WQ), WQok n s → (∀ k ∈ l, k < n) → WQok n (l.foldl (fun s k => pushN k s) s) ∧ (∀ j, s.1.getD j false = true → (l.foldl (fun s k => pushN k s) s).1.getD j false = true) ∧ (∀ k ∈ l, (l.foldl (fun s k => pushN k s) s).1.getD k false = true)
  | [], s, h, _ => ⟨h, fun _ h => h, fun _ h => by cases h⟩
  | a :: l, s, h, hl => by
    have ha := hl a List.mem_cons_self
    obtain ⟨h1, h2, h3⟩ := pushes_ok l (pushN a s) (h.push ha) (fun k hk => hl k (List.mem_cons_of_mem _ hk))
    refine ⟨h1, fun j hj => h2 j (push_keep a s j hj), fun k hk => ?_⟩
    rcases List.mem_cons.1 hk with rfl | hk
    · exact h2 _ (push_at h.len ha)
    · exact h3 k hk
structure Inv (S : Sys) (ins outs : List Nat) (s : WQ) : Prop where
  li : ins.length = S.n
  lo : outs.length = S.n
  bd : Bd S (fn outs)
  least : Least S (fn outs)
  rise : Rise S (fn outs)
  wq : WQok S.n s
  right : ∀ i, i < S.n → s.1.getD i false = false → fn ins i = S.inn (fn outs) i ∧ fn outs i = S.out (fn outs) i
theorem nodup_le : ∀ (n : Nat) {q : List Nat}, q.Nodup → (∀ i ∈ q, i < n) → q.length ≤ n
  | 0, q, _, hl => by
    cases q with
    | nil => exact Nat.le_refl _
    | cons a l => have := hl a List.mem_cons_self; omega
  | n + 1, q, h, hl => by
    by_cases hn : n ∈ q
    · have ih := nodup_le n (h.erase n) (fun i hi => by
        have h1 := (h.mem_erase_iff).1 hi
        have h2 := hl i h1.2
        have := h1.1
        omega)
      rw [List.length_erase_of_mem hn] at ih
      omega
    · have ih := nodup_le n h (fun i hi => by
        have h2 := hl i hi
        have : i ≠ n := fun e => hn (e ▸ hi)
        omega)
      omega
def remL (m : Bool) : List Nat → Nat
  | [] => 0
  | v :: l => remN m v + remL m l
theorem remL_set (m : Bool) : ∀ (l : List Nat) (i v : Nat), i < l.length → remL m (l.set i v) + remN m (fn l i) = remL m l + remN m v
  | [], i, v, h => by simp at h
  | a :: l, 0, v, _ => by
    show remN m v + remL m l + remN m a = remN m a + remL m l + remN m v
    omega
  | a :: l, i + 1, v, h => by
    have := remL_set m l i v (by simpa using h)
    show remN m a + remL m (l.set i v) + remN m (fn l i) = remN m a + remL m l + remN m v
    omega
section
variable {S : Sys} (hS : S.Ok) {tos : Nat → List Nat} (hto : ∀ i, i < S.n → ∀ k ∈ tos i, k < S.n) (hear : ∀ i j, i < S.n → j < S.n → i ∈ S.src j → j ∈ tos i)
include hS hto hear in
theorem look_inv {ins outs : List Nat} {ws : List Bool} {q : List Nat} {i : Nat} (h : Inv S ins outs (ws, i :: q)) :
    Inv S (lookN S tos i ins outs (ws.set i false, q)).1 (lookN S tos i ins outs (ws.set i false, q)).2.1 (lookN S tos i ins outs (ws.set i false, q)).2.2 ∧
    (remL S.must (lookN S tos i ins outs (ws.set i false, q)).2.1 * (S.n + 1) + (lookN S tos i ins outs (ws.set i false, q)).2.2.2.length < remL S.must outs * (S.n + 1) + (i :: q).length) := by
  have hi : i < S.n := h.wq.lt i List.mem_cons_self
  have hlw : ws.length = S.n := h.wq.len
  have hnd := h.wq.nd
  rw [List.nodup_cons] at hnd
  have W : WQok S.n (ws.set i false, q) := by
    refine ⟨by rw [List.length_set]; exact hlw, fun j hj => h.wq.lt j (List.mem_cons_of_mem _ hj), hnd.2, fun j hj => ?_⟩
    show (ws.set i false).getD j false = true ↔ j ∈ q
    rw [getD_setB]
    by_cases e : i = j
    · subst e
      rw [if_pos ⟨rfl, by rw [hlw]; exact hi⟩]
      exact ⟨(fun c => by cases c), fun c => absurd c hnd.1⟩
    · rw [if_neg (fun c => e c.1)]
      rw [show (ws.getD j false = true ↔ j ∈ i :: q) from h.wq.iff j hj, List.mem_cons]
      exact ⟨fun c => c.elim (fun c => absurd c.symm e) id, .inr⟩
  have hset : ∀ j, (ins.set i (S.inn (fn outs) i)).getD j 0 = if j = i then S.inn (fn outs) i else fn ins j := fun j => by
    have := congrFun (fn_set ins i (S.inn (fn outs) i) (by rw [h.li]; exact hi)) j
    exact this
  unfold lookN
  by_cases hy : S.out (fn outs) i = fn outs i
  · rw [if_pos hy]
    refine ⟨⟨by show (ins.set _ _).length = _; rw [List.length_set]; exact h.li, h.lo, h.bd, h.least, h.rise, W, fun j hj hw => ?_⟩, by show remL S.must outs * (S.n + 1) + q.length < remL S.must outs * (S.n + 1) + (q.length + 1); omega⟩
    show (ins.set i (S.inn (fn outs) i)).getD j 0 = _ ∧ _
    rw [hset]
    by_cases e : j = i
    · subst e; rw [if_pos rfl]; exact ⟨rfl, hy.symm⟩
    · rw [if_neg e]
      refine h.right j hj ?_
      have hw : (ws.set i false).getD j false = false := hw
      rw [getD_setB, if_neg (fun c => e c.1.symm)] at hw
      exact hw
  · rw [if_neg hy]
    obtain ⟨s1, s2, s3, s4⟩ := step_ok hS h.bd h.least h.rise hi
    obtain ⟨p1, p2, p3⟩ := pushes_ok (tos i) (ws.set i false, q) W (hto i hi)
    have ef : fn (outs.set i (S.out (fn outs) i)) = upd (fn outs) i (S.out (fn outs) i) := fn_set outs i _ (by rw [h.lo]; exact hi)
    refine ⟨⟨by show (ins.set _ _).length = _; rw [List.length_set]; exact h.li, by show (outs.set _ _).length = _; rw [List.length_set]; exact h.lo, ?_, ?_, ?_, p1, fun j hj hw => ?_⟩, ?_⟩
    · show Bd S (fn (outs.set i _)); rw [ef]; exact s1
    · show Least S (fn (outs.set i _)); rw [ef]; exact s2
    · show Rise S (fn (outs.set i _)); rw [ef]; exact s3
    · show fn (ins.set i (S.inn (fn outs) i)) j = S.inn (fn (outs.set i (S.out (fn outs) i))) j ∧ fn (outs.set i (S.out (fn outs) i)) j = S.out (fn (outs.set i (S.out (fn outs) i))) j
      have hw : ((tos i).foldl (fun s k => pushN k s) (ws.set i false, q)).1.getD j false = false := hw
      have hns : i ∉ S.src j := fun hm => by
        have := p3 j (hear i j hi hj hm)
        rw [this] at hw; cases hw
      have hsame : S.inn (fn (outs.set i (S.out (fn outs) i))) j = S.inn (fn outs) j := by
        unfold Sys.inn
        congr 1
        refine List.map_congr_left (fun k hk => ?_)
        rw [ef]
        unfold upd
        rw [if_neg (fun e : k = i => hns (by rw [← e]; exact hk))]
      have hout : S.out (fn (outs.set i (S.out (fn outs) i))) j = S.out (fn outs) j := by
        show trN _ _ (S.inn (fn (outs.set i (S.out (fn outs) i))) j) = trN _ _ (S.inn (fn outs) j)
        rw [hsame]
      rw [hsame, hout, ef, fn_set ins i _ (by rw [h.li]; exact hi)]
      unfold upd
      by_cases e : j = i
      · subst e; rw [if_pos rfl, if_pos rfl]; exact ⟨rfl, rfl⟩
      · rw [if_neg e, if_neg e]
        refine h.right j hj ?_
        have h0 : (ws.set i false).getD j false = false := by
          cases hc : (ws.set i false).getD j false with
          | false => rfl
          | true => have := p2 j hc; rw [this] at hw; cases hw
        rw [getD_setB, if_neg (fun c => e c.1.symm)] at h0
        exact h0
    · show remL S.must (outs.set i (S.out (fn outs) i)) * (S.n + 1) + ((tos i).foldl (fun s k => pushN k s) (ws.set i false, q)).2.length < _
      have hr := remL_set S.must outs i (S.out (fn outs) i) (by rw [h.lo]; exact hi)
      have hlt := remN_lt (h.bd i hi) (out_lt hS h.bd hi) (h.rise i hi) (fun e => hy e.symm)
      have hq : ((tos i).foldl (fun s k => pushN k s) (ws.set i false, q)).2.length ≤ S.n := nodup_le S.n p1.nd p1.lt
      have hle : remL S.must (outs.set i (S.out (fn outs) i)) + 1 ≤ remL S.must outs := by omega
      have := Nat.mul_le_mul_right (S.n + 1) hle
      rw [Nat.add_mul] at this
      have hc : (i :: q).length = q.length + 1 := rfl
      omega
include hS hto hear in
theorem solve_ok : ∀ (d : Nat) (ins outs : List Nat) (s : WQ), Inv S ins outs s → remL S.must outs * (S.n + 1) + s.2.length ≤ d →
    ∃ a b, (∀ k, d < k → solveN S tos k ins outs s.1 s.2 = some (a, b)) ∧ a.length = S.n ∧ b.length = S.n ∧ Sol S (fn a) (fn b)
  | d, ins, outs, (ws, []), h, _ => by
    refine ⟨ins, outs, fun k hk => ?_, h.li, h.lo, h.bd, fun i hi => ?_, fun i hi => ?_, h.least⟩
    · obtain ⟨k, rfl⟩ : ∃ m, k = m + 1 := ⟨k - 1, by omega⟩
      rfl
    · refine (h.right i hi ?_).1
      cases hc : ws.getD i false with
      | false => rfl
      | true => have := (h.wq.iff i hi).1 hc; cases this
    · refine (h.right i hi ?_).2
      cases hc : ws.getD i false with
      | false => rfl
      | true => have := (h.wq.iff i hi).1 hc; cases this
  | 0, ins, outs, (ws, i :: q), h, hd => by
    have : (i :: q).length = q.length + 1 := rfl
    have hd : _ + (i :: q).length ≤ 0 := hd
    omega
  | d + 1, ins, outs, (ws, i :: q), h, hd => by
    obtain ⟨h1, h2⟩ := look_inv hS hto hear h
    have hd : _ + (i :: q).length ≤ d + 1 := hd
    obtain ⟨a, b, hk, r⟩ := solve_ok d _ _ _ h1 (by omega)
    refine ⟨a, b, fun k hlt => ?_, r⟩
    obtain ⟨k, rfl⟩ : ∃ m, k = m + 1 := ⟨k - 1, by omega⟩
    exact hk k (by omega)
end
end Go.Proofs.YtbnkeddnibjncaaDoor.Th
