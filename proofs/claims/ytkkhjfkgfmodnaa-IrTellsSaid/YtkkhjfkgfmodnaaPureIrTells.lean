import Derived.Test.YtkkhjfkgfmodnaaSIrTells
import Derived.Test.YtkkhjfkgfmodnaaIA
import Derived.Test.YtkkhjfkgfmodnaaIM1
import Derived.Test.YtkkhjfkgfmodnaaBI2
namespace Go.Proofs.Ytkkhjfkgfmodnaa.Pure
open Go Go.RowKit Go.Proofs.Ytkkhjfkgfmodnaa.P Go.Proofs.Ytkkhjfkgfmodnaa.Opn Go.Proofs.YtkkhjfkgfmodnaaW.PrintWords Go.Proofs.YtkkhjfkgfmodnaaW.PrintLast Go.Proofs.YtkkhjfkgfmodnaaW.PrintMore
theorem known_ev : Ev (fun k => interlocklaw02_known.f k) true := Ev.of interlocklaw02_known.mono (k := 6) known_6
theorem tell_tab : ((List.range 256).all fun n => interlockref02_Plain.f (n : Int) == some (shpAt (n : Int)).p && interlockref02_Acquire.f (n : Int) == some (shpAt (n : Int)).q && interlockref02_Release.f (n : Int) == some (shpAt (n : Int)).r) = true := by kernel_rfl
def nameOk (o : Option (ByteArray × Int)) (s : Shp) : Bool := match o with | some (b, c) => b.data.toList == s.nm && c == s.cnt 3 | none => false
theorem name_tab : ((List.range 256).all fun n => nameOk (interlockref02_Name.f 9 (n : Int)) (shpAt (n : Int))) = true := by kernel_rfl
theorem tell_at (n : Nat) (hn : n ≤ 255) : interlockref02_Plain.f (n : Int) = some (shpAt (n : Int)).p ∧ interlockref02_Acquire.f (n : Int) = some (shpAt (n : Int)).q ∧ interlockref02_Release.f (n : Int) = some (shpAt (n : Int)).r := by
  have h := List.all_eq_true.1 tell_tab n (List.mem_range.2 (by omega))
  simp only [Bool.and_eq_true, beq_iff_eq] at h
  exact ⟨h.1.1, h.1.2, h.2⟩
theorem rname_ev (n : Nat) (hn : n ≤ 255) : ∃ b, Ev (fun k => interlockref02_Name.f k (n : Int)) (b, (shpAt (n : Int)).cnt 3) ∧ b.toList = (shpAt (n : Int)).nm := by
  have h := List.all_eq_true.1 name_tab n (List.mem_range.2 (by omega))
  cases e : interlockref02_Name.f 9 (n : Int) with
  | none => rw [e] at h; cases h
  | some p =>
    obtain ⟨b, c⟩ := p
    rw [e] at h
    simp only [nameOk, Bool.and_eq_true, beq_iff_eq] at h
    refine ⟨b, Ev.of (interlockref02_Name.mono _) (k := 9) (by rw [e, h.2]), by rw [Go.ByteArray.toList_eq]; exact h.1⟩
theorem row_tab : ((List.range 256).all fun n => interlockref02_row.f 3 (n : Int) == some [(shpAt (n : Int)).w 0, (shpAt (n : Int)).w 1, (shpAt (n : Int)).w 2]) = true := by kernel_rfl
theorem row_ev (n : Nat) (hn : n ≤ 255) : Ev (fun k => interlockref02_row.f k (n : Int)) [(shpAt (n : Int)).w 0, (shpAt (n : Int)).w 1, (shpAt (n : Int)).w 2] :=
  Ev.of (interlockref02_row.mono _) (k := 3) (eq_of_beq (List.all_eq_true.1 row_tab n (List.mem_range.2 (by omega))))
theorem rd3 (a b c : Int) (j : Nat) (hj : j < 3) : rd [a, b, c] (j : Int) = xyz a b c j := by
  rcases (by omega : j = 0 ∨ j = 1 ∨ j = 2) with rfl | rfl | rfl <;> rfl
theorem xyz_w (s : Shp) (j : Nat) (hj : j < 3) : xyz (s.w 0) (s.w 1) (s.w 2) j = s.w j := by
  rcases (by omega : j = 0 ∨ j = 1 ∨ j = 2) with rfl | rfl | rfl <;> rfl
/-- The set of the numbers that a word has. -/
def regN (s : Shp) (x : Nat → Int) (wd : Int) : Nat → Nat
  | 0 => 0
  | n + 1 => if s.w n = wd then Th.withN (regN s x wd n) [x n] else regN s x wd n
theorem regN_lt (s : Shp) (x : Nat → Int) (wd : Int) : ∀ n, regN s x wd n < 18446744073709551616
  | 0 => by unfold regN; decide
  | n + 1 => by
    unfold regN
    split
    · exact Th.with_lt _ _ (regN_lt s x wd n)
    · exact regN_lt s x wd n
theorem regTo_ev (s : Shp) (x : Nat → Int) (wd : Int) : ∀ n, Ev (fun k => regTo k s x wd n) (regN s x wd n : Int)
  | 0 => Ev.now 0
  | n + 1 => by
    refine Ev.bind (regTo_ev s x wd n) ?_
    rw [show regN s x wd (n + 1) = if s.w n = wd then Th.withN (regN s x wd n) [x n] else regN s x wd n from rfl]
    by_cases h : s.w n = wd
    · rw [if_pos h]
      exact ev_pos h (Th.with_ev [x n] (by show 1 ≤ 4611686018427387904; decide) _ (regN_lt s x wd n))
    · rw [if_neg h]
      exact ev_neg h (Ev.now _)
section
variable (op : Nat) (n0 n1 n2 wd : Int)
theorem regs_ev (hop : op ≤ 255) : Ev (fun k => ir_registers.f k (op : Int) n0 n1 n2 wd) (regN (shpAt (op : Int)) (xyz n0 n1 n2) wd 3 : Int) :=
  ev_pos (by omega) (ev_pos (by omega) (regTo_ev _ _ _ 3))
theorem rof_l0 : ∀ d j : Nat, j + d = 3 → Ev (fun k => interlockref02_of.l0 k wd (regN (shpAt (op : Int)) (xyz n0 n1 n2) wd j : Int) [(shpAt (op : Int)).w 0, (shpAt (op : Int)).w 1, (shpAt (op : Int)).w 2] [n0, n1, n2] (j : Int)) (regN (shpAt (op : Int)) (xyz n0 n1 n2) wd 3 : Int)
  | 0, j, h => by
    obtain rfl : j = 3 := by omega
    exact Ev.step (fun k => by simp only [interlockref02_of.l0]; exact if_neg (by decide)) (Ev.now _)
  | d + 1, j, h => by
    have ih := rof_l0 d (j + 1) (by omega)
    have e7 : rd [(shpAt op).w 0, (shpAt op).w 1, (shpAt op).w 2] (j : Int) = (shpAt op).w j := by rw [rd3 _ _ _ j (by omega), xyz_w _ j (by omega)]
    have e8 : rd [n0, n1, n2] (j : Int) = xyz n0 n1 n2 j := rd3 _ _ _ j (by omega)
    have ej : wrap64 ((j : Int) + 1) = ((j + 1 : Nat) : Int) := up j (by omega)
    have hl7 : (([(shpAt op).w 0, (shpAt op).w 1, (shpAt op).w 2] : List Int).length : Int) = 3 := rfl
    have hl8 : (([n0, n1, n2] : List Int).length : Int) = 3 := rfl
    by_cases hw : (shpAt (op : Int)).w j = wd
    · have hr : regN (shpAt (op : Int)) (xyz n0 n1 n2) wd (j + 1) = Th.withN (regN (shpAt (op : Int)) (xyz n0 n1 n2) wd j) [xyz n0 n1 n2 j] := if_pos hw
      rw [hr] at ih
      refine Ev.step (fun k => ?_) (Ev.bind (Th.rwith_ev [xyz n0 n1 n2 j] (by show 1 ≤ 4611686018427387904; decide) _ (regN_lt (shpAt (op : Int)) (xyz n0 n1 n2) wd j)) (f := fun k t => interlockref02_of.l0 k wd t [(shpAt (op : Int)).w 0, (shpAt (op : Int)).w 1, (shpAt (op : Int)).w 2] [n0, n1, n2] ((j + 1 : Nat) : Int)) ih)
      simp only [interlockref02_of.l0]
      rw [if_pos (by omega), if_pos (by omega), if_pos (by omega), e7, if_pos hw, if_pos (by omega), e8, ej]
    · have hr : regN (shpAt (op : Int)) (xyz n0 n1 n2) wd (j + 1) = regN (shpAt (op : Int)) (xyz n0 n1 n2) wd j := if_neg hw
      rw [hr] at ih
      refine Ev.step (fun k => ?_) ih
      simp only [interlockref02_of.l0]
      rw [if_pos (by omega), if_pos (by omega), if_pos (by omega), e7, if_neg hw, ej]
theorem rof_ev (hop : op ≤ 255) : Ev (fun k => interlockref02_of.f k (op : Int) n0 n1 n2 wd) (regN (shpAt (op : Int)) (xyz n0 n1 n2) wd 3 : Int) :=
  Ev.bind (row_ev op hop) (Ev.bind (Ev.now [n0, n1, n2]) (rof_l0 op n0 n1 n2 wd 3 0 (by omega)))
end
theorem uses_ev (op : Nat) (n0 n1 n2 : Int) (hop : op ≤ 255) : Ev (fun k => ir_Uses.f k (op : Int) n0 n1 n2) (regN (shpAt (op : Int)) (xyz n0 n1 n2) 3 3 : Int) := Ev.bind (regs_ev op n0 n1 n2 3 hop) (Ev.now _)
theorem sets_ev (op : Nat) (n0 n1 n2 : Int) (hop : op ≤ 255) : Ev (fun k => ir_Sets.f k (op : Int) n0 n1 n2) (regN (shpAt (op : Int)) (xyz n0 n1 n2) 2 3 : Int) := Ev.bind (regs_ev op n0 n1 n2 2 hop) (Ev.now _)
theorem ruses_ev (op : Nat) (n0 n1 n2 : Int) (hop : op ≤ 255) : Ev (fun k => interlockref02_Uses.f k (op : Int) n0 n1 n2) (regN (shpAt (op : Int)) (xyz n0 n1 n2) 3 3 : Int) := Ev.bind (rof_ev op n0 n1 n2 3 hop) (Ev.now _)
theorem rsets_ev (op : Nat) (n0 n1 n2 : Int) (hop : op ≤ 255) : Ev (fun k => interlockref02_Sets.f k (op : Int) n0 n1 n2) (regN (shpAt (op : Int)) (xyz n0 n1 n2) 2 3 : Int) := Ev.bind (rof_ev op n0 n1 n2 2 hop) (Ev.now _)
theorem some_ev {α : Type} {o : Option α} {a : α} (h : o = some a) : Ev (fun _ => o) a := by rw [h]; exact Ev.now a
theorem tells_nat (p q : Nat) (hp : p ≤ 255) (hq : q ≤ 255) (i1 i2 i3 x1 x2 x3 : Int) : Ev (fun k => interlocklaw02_IrTells.j0 k true (p : Int) i1 i2 i3 (q : Int) x1 x2 x3) true := by
  obtain ⟨b, hb, eb⟩ := rname_ev p hp
  obtain ⟨a1, a2, a3⟩ := tell_at q hq
  refine Ev.step (fun k => by simp only [interlocklaw02_IrTells.j0]; rfl) ?_
  refine Ev.bind (some_ev (name_f (a := (p : Int)) (by omega) (by omega))) (Ev.bind hb (Ev.bind known_ev (ev_pos (by first | rfl | trivial) (ev_pos (by first | rfl | trivial) ?_))))
  refine ev_pos (by rw [eb, Go.ByteArray.toList_eq]) (ev_pos rfl ?_)
  refine Ev.bind (uses_ev p i1 i2 i3 hp) (Ev.bind (ruses_ev p i1 i2 i3 hp) (ev_pos rfl ?_))
  refine Ev.bind (sets_ev p i1 i2 i3 hp) (Ev.bind (rsets_ev p i1 i2 i3 hp) (ev_pos rfl ?_))
  refine Ev.bind (uses_ev q x1 x2 x3 hq) (Ev.bind (ruses_ev q x1 x2 x3 hq) (ev_pos rfl ?_))
  refine Ev.bind (sets_ev q x1 x2 x3 hq) (Ev.bind (rsets_ev q x1 x2 x3 hq) (ev_pos rfl ?_))
  refine Ev.bind (some_ev (plain_f (a := (q : Int)) (by omega) (by omega))) (Ev.bind (some_ev a1) (ev_pos (by simp) ?_))
  refine Ev.bind (some_ev (acquire_f (a := (q : Int)) (by omega) (by omega))) (Ev.bind (some_ev a2) (ev_pos (by simp) ?_))
  refine Ev.bind (some_ev (release_f (a := (q : Int)) (by omega) (by omega))) (Ev.bind (some_ev a3) ?_)
  rw [beq_self_eq_true]
  exact Ev.now true
theorem IrTells : Stmt.IrTells := by
  rintro ⟨f0, f1, f2, f3⟩ a b ⟨hx, _, _, _⟩ ha hb
  have r0 := u8_range hx
  have ra := u8_range ha
  have rb := u8_range hb
  have r0 : 0 ≤ f0 ∧ f0 ≤ 255 := r0
  obtain ⟨p, rfl⟩ : ∃ p : Nat, f0 = (p : Int) := ⟨f0.toNat, by omega⟩
  obtain ⟨⟨y0, y1, y2, y3⟩, hI, hG⟩ := ins_good a b 1 4 1 ra.1 ra.2 rb.1 rb.2 (by omega) (by omega)
  have ry : 0 ≤ y0 ∧ y0 ≤ 255 := hG.1
  obtain ⟨q, rfl⟩ : ∃ q : Nat, y0 = (q : Int) := ⟨y0.toNat, by omega⟩
  obtain ⟨a1, a2, a3⟩ := tell_at p (by omega)
  refine Ev.rounds (Ev.bind hI ?_)
  refine Ev.bind (some_ev (plain_f (a := (p : Int)) (by omega) (by omega))) (Ev.bind (some_ev a1) (ev_pos (by simp) ?_))
  refine Ev.bind (some_ev (acquire_f (a := (p : Int)) (by omega) (by omega))) (Ev.bind (some_ev a2) (ev_pos (by simp) ?_))
  refine Ev.bind (some_ev (release_f (a := (p : Int)) (by omega) (by omega))) (Ev.bind (some_ev a3) ?_)
  rw [beq_self_eq_true]
  exact tells_nat p q (by omega) (by omega) f1 f2 f3 y1 y2 y3
end Go.Proofs.Ytkkhjfkgfmodnaa.Pure
