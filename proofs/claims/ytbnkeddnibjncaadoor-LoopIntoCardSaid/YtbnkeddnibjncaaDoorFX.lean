import Derived.Test.YtbnkeddnibjncaaDoorEV
namespace Go.Proofs.YtbnkeddnibjncaaDoor.Th
set_option linter.unusedVariables false
open Go Go.RowKit Go.Proofs.YtbnkeddnibjncaaDoor.P Go.Proofs.YtbnkeddnibjncaaDoor.Opn Go.Proofs.YtbnkeddnibjncaaDoorW.PrintWords Go.Proofs.YtbnkeddnibjncaaDoorW.PrintLast Go.Proofs.YtbnkeddnibjncaaDoorW.PrintMore
/-! What holds where: sets as numbers of 64 bits, the meet, the order, the solution. No program in sight. -/
abbrev U : Nat := 18446744073709551616
def MT (m : Bool) (a b : Nat) : Nat := if m = true then a &&& b else a ||| b
def AL (m : Bool) : Nat := if m = true then 18446744073709551615 else 0
def inN (m : Bool) (e : Bool) (s : Nat) (vs : List Nat) : Nat := vs.foldl (MT m) (if e = true then MT m (AL m) s else AL m)
theorem ones_bit {i : Nat} (h : i < 64) : (18446744073709551615 : Nat).testBit i = true := by
  have := Nat.testBit_two_pow_sub_one 64 i
  rw [show (2 ^ 64 - 1 : Nat) = 18446744073709551615 from rfl] at this
  rw [this]; exact decide_eq_true h
theorem bit_hi {a i : Nat} (ha : a < U) (hi : 64 ≤ i) : a.testBit i = false := Nat.testBit_lt_two_pow (Nat.lt_of_lt_of_le ha (Nat.pow_le_pow_right (n := 2) (by decide) hi))
theorem ext64 {a b : Nat} (ha : a < U) (hb : b < U) (h : ∀ i, i < 64 → a.testBit i = b.testBit i) : a = b :=
  Nat.eq_of_testBit_eq (fun i => by
    rcases Nat.lt_or_ge i 64 with hi | hi
    · exact h i hi
    · rw [bit_hi ha hi, bit_hi hb hi])
theorem MT_lt (m : Bool) {a b : Nat} (ha : a < U) (hb : b < U) : MT m a b < U := by
  unfold MT
  split
  · exact Nat.lt_of_le_of_lt Nat.and_le_left ha
  · exact Nat.or_lt_two_pow (n := 64) ha hb
theorem AL_lt (m : Bool) : AL m < U := by unfold AL; split <;> decide
theorem MT_bit (m : Bool) (a b i : Nat) : (MT m a b).testBit i = if m = true then (a.testBit i && b.testBit i) else (a.testBit i || b.testBit i) := by
  unfold MT
  split
  · rw [Nat.testBit_and]
  · rw [Nat.testBit_or]
theorem AL_bit (m : Bool) {i : Nat} (h : i < 64) : (AL m).testBit i = m := by
  cases m
  · show (0 : Nat).testBit i = false; simp
  · exact ones_bit h
theorem fold_lt (m : Bool) : ∀ (vs : List Nat) (x : Nat), x < U → (∀ v ∈ vs, v < U) → vs.foldl (MT m) x < U
  | [], x, hx, _ => hx
  | v :: vs, x, hx, h => fold_lt m vs _ (MT_lt m hx (h v List.mem_cons_self)) (fun u hu => h u (List.mem_cons_of_mem _ hu))
theorem fold_bit (m : Bool) (i : Nat) : ∀ (vs : List Nat) (x : Nat), (vs.foldl (MT m) x).testBit i = if m = true then (x.testBit i && vs.all (·.testBit i)) else (x.testBit i || vs.any (·.testBit i))
  | [], x => by cases m <;> simp
  | v :: vs, x => by
    show (vs.foldl (MT m) (MT m x v)).testBit i = _
    rw [fold_bit m i vs, MT_bit]
    cases m <;> simp [Bool.and_assoc, Bool.or_assoc]
theorem inN_lt (m e : Bool) {s : Nat} {vs : List Nat} (hs : s < U) (h : ∀ v ∈ vs, v < U) : inN m e s vs < U := by
  unfold inN
  refine fold_lt m vs _ ?_ h
  split
  · exact MT_lt m (AL_lt m) hs
  · exact AL_lt m
theorem inN_bit (m e : Bool) (s : Nat) (vs : List Nat) {i : Nat} (hi : i < 64) : (inN m e s vs).testBit i = if m = true then ((!e || s.testBit i) && vs.all (·.testBit i)) else ((e && s.testBit i) || vs.any (·.testBit i)) := by
  unfold inN
  rw [fold_bit]
  have h : (if e = true then MT m (AL m) s else AL m).testBit i = if m = true then (!e || s.testBit i) else (e && s.testBit i) := by
    cases e
    · rw [if_neg (by decide), AL_bit m hi]; cases m <;> simp
    · rw [if_pos rfl, MT_bit, AL_bit m hi]; cases m <;> simp
  rw [h]
  cases m <;> simp
/-- Only which sets come to a place counts. -/
theorem inN_set (m e : Bool) {s : Nat} {vs us : List Nat} (hs : s < U) (hv : ∀ v ∈ vs, v < U) (hu : ∀ v ∈ us, v < U) (h : ∀ v, v ∈ vs ↔ v ∈ us) : inN m e s vs = inN m e s us := by
  refine ext64 (inN_lt m e hs hv) (inN_lt m e hs hu) (fun i hi => ?_)
  rw [inN_bit m e s vs hi, inN_bit m e s us hi]
  have h1 : vs.all (·.testBit i) = us.all (·.testBit i) := by
    rw [Bool.eq_iff_iff, List.all_eq_true, List.all_eq_true]
    exact ⟨fun a x hx => a x ((h x).2 hx), fun a x hx => a x ((h x).1 hx)⟩
  have h2 : vs.any (·.testBit i) = us.any (·.testBit i) := by
    rw [Bool.eq_iff_iff, List.any_eq_true, List.any_eq_true]
    exact ⟨fun ⟨x, hx, a⟩ => ⟨x, (h x).1 hx, a⟩, fun ⟨x, hx, a⟩ => ⟨x, (h x).2 hx, a⟩⟩
  rw [h1, h2]
/-- The order: from the meet of none on. -/
def Le (m : Bool) (a b : Nat) : Prop := ∀ i, i < 64 → if m = true then (b.testBit i = true → a.testBit i = true) else (a.testBit i = true → b.testBit i = true)
theorem Le.refl (m : Bool) (a : Nat) : Le m a a := fun i _ => by split <;> exact id
theorem Le.trans {m : Bool} {a b c : Nat} (h : Le m a b) (k : Le m b c) : Le m a c := fun i hi => by
  have h1 := h i hi
  have h2 := k i hi
  cases m
  · simp only [Bool.false_eq_true, if_false] at *; exact fun x => h2 (h1 x)
  · simp only [if_true] at *; exact fun x => h1 (h2 x)
theorem Le.anti {m : Bool} {a b : Nat} (ha : a < U) (hb : b < U) (h : Le m a b) (k : Le m b a) : a = b := ext64 ha hb (fun i hi => by
  have h1 := h i hi
  have h2 := k i hi
  rw [Bool.eq_iff_iff]
  cases m
  · simp only [Bool.false_eq_true, if_false] at *; exact ⟨h1, h2⟩
  · simp only [if_true] at *; exact ⟨h2, h1⟩)
theorem Le.bot (m : Bool) (a : Nat) : Le m (AL m) a := fun i hi => by
  rw [AL_bit m hi]
  cases m <;> simp
theorem inN_mono (m e : Bool) {s : Nat} {l : List Nat} {o o' : Nat → Nat} (h : ∀ k ∈ l, Le m (o k) (o' k)) : Le m (inN m e s (l.map o)) (inN m e s (l.map o')) := fun i hi => by
  rw [inN_bit _ _ _ _ hi, inN_bit _ _ _ _ hi]
  cases m
  · simp only [Bool.false_eq_true, if_false, Bool.or_eq_true, List.any_map, List.any_eq_true, Function.comp]
    rintro (a | ⟨k, hk, a⟩)
    · exact .inl a
    · have := h k hk i hi; simp only [Bool.false_eq_true, if_false] at this; exact .inr ⟨k, hk, this a⟩
  · simp only [if_true, Bool.and_eq_true, List.all_map, List.all_eq_true, Function.comp]
    rintro ⟨a, b⟩
    exact ⟨a, fun k hk => by have := h k hk i hi; simp only [if_true] at this; exact this (b k hk)⟩
/-- Through a place: without k, with g. -/
def trN (k g x : Nat) : Nat := (x &&& (18446744073709551615 - k)) ||| g
theorem trN_lt (k : Nat) {g x : Nat} (hg : g < U) (hx : x < U) : trN k g x < U := Nat.or_lt_two_pow (n := 64) (Nat.lt_of_le_of_lt Nat.and_le_left hx) hg
theorem trN_mono (m : Bool) (k g : Nat) {x y : Nat} (h : Le m x y) : Le m (trN k g x) (trN k g y) := fun i hi => by
  have h1 := h i hi
  unfold trN
  rw [Nat.testBit_or, Nat.testBit_or, Nat.testBit_and, Nat.testBit_and]
  cases m
  · simp only [Bool.false_eq_true, if_false, Bool.or_eq_true, Bool.and_eq_true] at *
    exact fun a => a.elim (fun a => .inl ⟨h1 a.1, a.2⟩) .inr
  · simp only [if_true, Bool.or_eq_true, Bool.and_eq_true] at *
    exact fun a => a.elim (fun a => .inl ⟨h1 a.1, a.2⟩) .inr
/-- How many bits may still change. -/
def remN (m : Bool) (v : Nat) : Nat := ((List.range 64).filter (fun i => v.testBit i == m)).length
theorem remN_le (m : Bool) (v : Nat) : remN m v ≤ 64 := Nat.le_trans (List.length_filter_le _ _) (by simp)
theorem filter_len {α : Type} {p q : α → Bool} : ∀ l : List α, (∀ a ∈ l, p a = true → q a = true) → (l.filter p).length ≤ (l.filter q).length
  | [], _ => Nat.le_refl _
  | a :: l, h => by
    have ih := filter_len l (fun b hb => h b (List.mem_cons_of_mem _ hb))
    have h1 := h a List.mem_cons_self
    rw [List.filter_cons, List.filter_cons]
    split
    · rename_i hp
      rw [if_pos (h1 hp)]
      simp only [List.length_cons]; omega
    · split
      · simp only [List.length_cons]; omega
      · exact ih
theorem filter_lt {α : Type} {p q : α → Bool} : ∀ l : List α, (∀ a ∈ l, p a = true → q a = true) → (∃ a ∈ l, q a = true ∧ p a = false) → (l.filter p).length < (l.filter q).length
  | [], _, h => by obtain ⟨a, ha, _⟩ := h; cases ha
  | a :: l, h, hx => by
    have h0 := filter_len l (fun b hb => h b (List.mem_cons_of_mem _ hb))
    have h1 := h a List.mem_cons_self
    rw [List.filter_cons, List.filter_cons]
    obtain ⟨b, hb, hq, hp⟩ := hx
    rcases List.mem_cons.1 hb with rfl | hb
    · rw [if_neg (by rw [hp]; decide), if_pos hq]
      simp only [List.length_cons]; omega
    · have ih := filter_lt l (fun b hb => h b (List.mem_cons_of_mem _ hb)) ⟨b, hb, hq, hp⟩
      split
      · rename_i hpa
        rw [if_pos (h1 hpa)]
        simp only [List.length_cons]; omega
      · split
        · simp only [List.length_cons]; omega
        · exact ih
theorem remN_mono {m : Bool} {a b : Nat} (h : Le m a b) : remN m b ≤ remN m a := filter_len _ (fun i hi => by
  have h1 := h i (List.mem_range.1 hi)
  cases m
  · simp only [Bool.false_eq_true, if_false, beq_iff_eq] at *
    intro h2
    cases ha : a.testBit i with
    | false => rfl
    | true => rw [h1 ha] at h2; cases h2
  · simp only [if_true, beq_iff_eq] at *; exact h1)
theorem remN_lt {m : Bool} {a b : Nat} (ha : a < U) (hb : b < U) (h : Le m a b) (hne : a ≠ b) : remN m b < remN m a := by
  have hex : ∃ i, i < 64 ∧ a.testBit i ≠ b.testBit i := by
    refine Classical.byContradiction (fun hn => hne (ext64 ha hb (fun i hi => ?_)))
    refine Classical.byContradiction (fun h2 => hn ⟨i, hi, h2⟩)
  obtain ⟨i, hi, hd⟩ := hex
  refine filter_lt _ (fun j hj => ?_) ⟨i, List.mem_range.2 hi, ?_⟩
  · have h1 := h j (List.mem_range.1 hj)
    cases m
    · simp only [Bool.false_eq_true, if_false, beq_iff_eq] at *
      intro h2
      cases ha : a.testBit j with
      | false => rfl
      | true => rw [h1 ha] at h2; cases h2
    · simp only [if_true, beq_iff_eq] at *; exact h1
  · have h1 := h i hi
    cases m
    · simp only [Bool.false_eq_true, if_false] at h1
      cases ha : a.testBit i <;> cases hb : b.testBit i <;> simp_all
    · simp only [if_true] at h1
      cases ha : a.testBit i <;> cases hb : b.testBit i <;> simp_all
/-- A problem: of each place, where what comes to it is from; the edge; what is taken and added. -/
structure Sys where
  must : Bool
  n : Nat
  src : Nat → List Nat
  edge : Nat → Bool
  start : Nat
  kill : Nat → Nat
  gen : Nat → Nat
structure Sys.Ok (S : Sys) : Prop where
  src_lt : ∀ i, i < S.n → ∀ k ∈ S.src i, k < S.n
  start_lt : S.start < U
  gen_lt : ∀ i, S.gen i < U
def Sys.inn (S : Sys) (o : Nat → Nat) (i : Nat) : Nat := inN S.must (S.edge i) S.start ((S.src i).map o)
def Sys.out (S : Sys) (o : Nat → Nat) (i : Nat) : Nat := trN (S.kill i) (S.gen i) (S.inn o i)
def Bd (S : Sys) (o : Nat → Nat) : Prop := ∀ i, i < S.n → o i < U
def Pre (S : Sys) (o : Nat → Nat) : Prop := Bd S o ∧ ∀ i, i < S.n → Le S.must (S.out o i) (o i)
/-- Below whatever holds. -/
def Least (S : Sys) (o : Nat → Nat) : Prop := ∀ o', Pre S o' → ∀ i, i < S.n → Le S.must (o i) (o' i)
def Rise (S : Sys) (o : Nat → Nat) : Prop := ∀ i, i < S.n → Le S.must (o i) (S.out o i)
/-- The solution: what holds ahead (a, not Back) and behind (b). -/
structure Sol (S : Sys) (a b : Nat → Nat) : Prop where
  bd : Bd S b
  ins : ∀ i, i < S.n → a i = S.inn b i
  outs : ∀ i, i < S.n → b i = S.out b i
  least : Least S b
section
variable {S : Sys} (hS : S.Ok)
include hS in
theorem inn_lt {o : Nat → Nat} (h : Bd S o) {i : Nat} (hi : i < S.n) : S.inn o i < U := inN_lt _ _ hS.start_lt (fun v hv => by
  obtain ⟨k, hk, rfl⟩ := List.mem_map.1 hv
  exact h k (hS.src_lt i hi k hk))
include hS in
theorem out_lt {o : Nat → Nat} (h : Bd S o) {i : Nat} (hi : i < S.n) : S.out o i < U := trN_lt _ (hS.gen_lt i) (inn_lt hS h hi)
include hS in
theorem inn_mono {o o' : Nat → Nat} (h : ∀ k, k < S.n → Le S.must (o k) (o' k)) {i : Nat} (hi : i < S.n) : Le S.must (S.inn o i) (S.inn o' i) := inN_mono _ _ (fun k hk => h k (hS.src_lt i hi k hk))
include hS in
theorem out_mono {o o' : Nat → Nat} (h : ∀ k, k < S.n → Le S.must (o k) (o' k)) {i : Nat} (hi : i < S.n) : Le S.must (S.out o i) (S.out o' i) := trN_mono _ _ _ (inn_mono hS h hi)
include hS in
theorem Sol.one {a b a' b' : Nat → Nat} (h : Sol S a b) (k : Sol S a' b') : ∀ i, i < S.n → a i = a' i ∧ b i = b' i := by
  have hb : ∀ i, i < S.n → b i = b' i := fun i hi => Le.anti (h.bd i hi) (k.bd i hi)
    (h.least b' ⟨k.bd, fun j hj => by rw [← k.outs j hj]; exact Le.refl _ _⟩ i hi)
    (k.least b ⟨h.bd, fun j hj => by rw [← h.outs j hj]; exact Le.refl _ _⟩ i hi)
  intro i hi
  refine ⟨?_, hb i hi⟩
  rw [h.ins i hi, k.ins i hi]
  unfold Sys.inn
  congr 1
  exact List.map_congr_left (fun x hx => hb x (hS.src_lt i hi x hx))
def upd (o : Nat → Nat) (i v : Nat) : Nat → Nat := fun j => if j = i then v else o j
include hS in
/-- One place is made right: what was below stays below, what rose still rises. -/
theorem step_ok {o : Nat → Nat} (hb : Bd S o) (hl : Least S o) (hr : Rise S o) {i : Nat} (hi : i < S.n) :
    Bd S (upd o i (S.out o i)) ∧ Least S (upd o i (S.out o i)) ∧ Rise S (upd o i (S.out o i)) ∧ (∀ k, k < S.n → Le S.must (o k) (upd o i (S.out o i) k)) := by
  have hle : ∀ k, k < S.n → Le S.must (o k) (upd o i (S.out o i) k) := by
    intro k hk
    unfold upd
    split
    · rename_i e; subst e; exact hr k hk
    · exact Le.refl _ _
  refine ⟨fun k hk => ?_, fun o' ho k hk => ?_, fun k hk => ?_, hle⟩
  · unfold upd
    split
    · exact out_lt hS hb hi
    · exact hb k hk
  · unfold upd
    split
    · rename_i e; subst e
      exact (out_mono hS (fun j hj => hl o' ho j hj) hk).trans (ho.2 k hk)
    · exact hl o' ho k hk
  · refine Le.trans ?_ (out_mono hS hle hk)
    unfold upd
    split
    · rename_i e; subst e; exact Le.refl _ _
    · exact hr k hk
theorem bot_ok : Bd S (fun _ => AL S.must) ∧ Least S (fun _ => AL S.must) ∧ Rise S (fun _ => AL S.must) :=
  ⟨fun _ _ => AL_lt _, fun _ _ _ _ => Le.bot _ _, fun _ _ => Le.bot _ _⟩
end
end Go.Proofs.YtbnkeddnibjncaaDoor.Th
