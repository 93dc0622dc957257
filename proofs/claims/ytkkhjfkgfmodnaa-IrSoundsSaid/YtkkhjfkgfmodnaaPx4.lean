-- written by this project's xprint.py (a turn of the kit's printer; its own texts among them)
import Derived.Test.YtkkhjfkgfmodnaaPx0
import Derived.Test.YtkkhjfkgfmodnaaPx3
namespace Go.Proofs.Ytkkhjfkgfmodnaa.P
open Go.RowKit Go.Proofs.YtkkhjfkgfmodnaaW.PrintWords Go.Proofs.YtkkhjfkgfmodnaaW.PrintLast Go.Proofs.YtkkhjfkgfmodnaaW.PrintMore
attribute [local go_sem] max2_int min2_int max_two min_two max_three min_three max_four min_four   -- for this text's walks alone
attribute [local irreducible] Calls
set_option linter.unusedVariables false
set_option linter.unusedSimpArgs false

/-! ### ir_Plain: function 15 -/
def ir_Plain.f (a0 : Int) : Option Bool := if 0 ≤ a0 then (if a0 ≤ 255 then some (shpAt a0).p else none) else none
set_option maxHeartbeats 4000000 in
theorem ir_Plain.calls (a0 : Int) (r : Bool) (w : World) (h : ir_Plain.f a0 = some r) :
    Calls Try.prog 15 #[.int .u8 a0] w fun e w' => e = .returned (.bool r) ∧ Below w.heap.size w w' := by
  unfold ir_Plain.f at h
  by_cases h0 : 0 ≤ a0
  · rw [if_pos h0] at h
    by_cases h1 : a0 ≤ 255
    · rw [if_pos h1] at h
      obtain rfl := Option.some.inj h
      have HO : ∀ w, Calls Try.prog 37 #[.int .u8 a0] w fun e w' => e = .returned (.tuple #[.agg (shpAt a0).cells.toArray, .bool (decide (a0 < 28))]) ∧ Below w.heap.size w w' := fun w => of_all a0 h0 h1 w
      clear h h0 h1
      generalize decide (a0 < 28) = bb at HO
      generalize shpAt a0 = s at HO ⊢
      replace HO := Aside0.mk HO
      go_enter Try.func15, Try.ntmps15
      go_wp2_with (first | (go_at_call 37; refine (HO.out _).mono ?_; rintro e wq ⟨rfl, hb⟩; have HB1 := Aside0.mk hb; clear hb) | (refine gate_ (.store 65 _ _) rfl ?_; refine wpList_store_row rfl 65 (.tmp 3) (.tmp 8) rfl wq.heap.size s.cells.toArray ?x1 ?x2 65 _ (blk_new wq _) ?h1 ?h2 ?h3 ?_; (case x1 => rfl); (case x2 => rfl); (case h1 => kernel_rfl); (case h2 => rfl); (case h3 => kernel_rfl); generalize hW2 : World.setRow _ _ _ = W2; have HA := Aside0.mk (after_box hW2 HB1.out); clear hW2; generalize wq.heap.size = g at HA ⊢; have hc := HA.out.2 4 _ rfl))
      go_ret
      exact ⟨rfl, HA.out.1⟩

    · rw [if_neg h1] at h
      exact absurd h (by simp)
  · rw [if_neg h0] at h
    exact absurd h (by simp)

/-! ### ir_Acquire: function 17 -/
def ir_Acquire.f (a0 : Int) : Option Bool := if 0 ≤ a0 then (if a0 ≤ 255 then some (shpAt a0).q else none) else none
set_option maxHeartbeats 4000000 in
theorem ir_Acquire.calls (a0 : Int) (r : Bool) (w : World) (h : ir_Acquire.f a0 = some r) :
    Calls Try.prog 17 #[.int .u8 a0] w fun e w' => e = .returned (.bool r) ∧ Below w.heap.size w w' := by
  unfold ir_Acquire.f at h
  by_cases h0 : 0 ≤ a0
  · rw [if_pos h0] at h
    by_cases h1 : a0 ≤ 255
    · rw [if_pos h1] at h
      obtain rfl := Option.some.inj h
      have HO : ∀ w, Calls Try.prog 37 #[.int .u8 a0] w fun e w' => e = .returned (.tuple #[.agg (shpAt a0).cells.toArray, .bool (decide (a0 < 28))]) ∧ Below w.heap.size w w' := fun w => of_all a0 h0 h1 w
      clear h h0 h1
      generalize decide (a0 < 28) = bb at HO
      generalize shpAt a0 = s at HO ⊢
      replace HO := Aside0.mk HO
      go_enter Try.func17, Try.ntmps17
      go_wp2_with (first | (go_at_call 37; refine (HO.out _).mono ?_; rintro e wq ⟨rfl, hb⟩; have HB1 := Aside0.mk hb; clear hb) | (refine gate_ (.store 65 _ _) rfl ?_; refine wpList_store_row rfl 65 (.tmp 3) (.tmp 8) rfl wq.heap.size s.cells.toArray ?x1 ?x2 65 _ (blk_new wq _) ?h1 ?h2 ?h3 ?_; (case x1 => rfl); (case x2 => rfl); (case h1 => kernel_rfl); (case h2 => rfl); (case h3 => kernel_rfl); generalize hW2 : World.setRow _ _ _ = W2; have HA := Aside0.mk (after_box hW2 HB1.out); clear hW2; generalize wq.heap.size = g at HA ⊢; have hc := HA.out.2 5 _ rfl))
      go_ret
      exact ⟨rfl, HA.out.1⟩

    · rw [if_neg h1] at h
      exact absurd h (by simp)
  · rw [if_neg h0] at h
    exact absurd h (by simp)

/-! ### ir_Release: function 19 -/
def ir_Release.f (a0 : Int) : Option Bool := if 0 ≤ a0 then (if a0 ≤ 255 then some (shpAt a0).r else none) else none
set_option maxHeartbeats 4000000 in
theorem ir_Release.calls (a0 : Int) (r : Bool) (w : World) (h : ir_Release.f a0 = some r) :
    Calls Try.prog 19 #[.int .u8 a0] w fun e w' => e = .returned (.bool r) ∧ Below w.heap.size w w' := by
  unfold ir_Release.f at h
  by_cases h0 : 0 ≤ a0
  · rw [if_pos h0] at h
    by_cases h1 : a0 ≤ 255
    · rw [if_pos h1] at h
      obtain rfl := Option.some.inj h
      have HO : ∀ w, Calls Try.prog 37 #[.int .u8 a0] w fun e w' => e = .returned (.tuple #[.agg (shpAt a0).cells.toArray, .bool (decide (a0 < 28))]) ∧ Below w.heap.size w w' := fun w => of_all a0 h0 h1 w
      clear h h0 h1
      generalize decide (a0 < 28) = bb at HO
      generalize shpAt a0 = s at HO ⊢
      replace HO := Aside0.mk HO
      go_enter Try.func19, Try.ntmps19
      go_wp2_with (first | (go_at_call 37; refine (HO.out _).mono ?_; rintro e wq ⟨rfl, hb⟩; have HB1 := Aside0.mk hb; clear hb) | (refine gate_ (.store 65 _ _) rfl ?_; refine wpList_store_row rfl 65 (.tmp 3) (.tmp 8) rfl wq.heap.size s.cells.toArray ?x1 ?x2 65 _ (blk_new wq _) ?h1 ?h2 ?h3 ?_; (case x1 => rfl); (case x2 => rfl); (case h1 => kernel_rfl); (case h2 => rfl); (case h3 => kernel_rfl); generalize hW2 : World.setRow _ _ _ = W2; have HA := Aside0.mk (after_box hW2 HB1.out); clear hW2; generalize wq.heap.size = g at HA ⊢; have hc := HA.out.2 6 _ rfl))
      go_ret
      exact ⟨rfl, HA.out.1⟩

    · rw [if_neg h1] at h
      exact absurd h (by simp)
  · rw [if_neg h0] at h
    exact absurd h (by simp)

/-! ### ir_Name: function 21 -/
def Shp.cnt (s : Shp) : Nat → Int
  | 0 => 0
  | n + 1 => if s.w n = 0 then s.cnt n else s.cnt n + 1
theorem Shp.cnt_le (s : Shp) : ∀ n, 0 ≤ s.cnt n ∧ s.cnt n ≤ n
  | 0 => ⟨Int.le_refl _, Int.le_refl _⟩
  | n + 1 => by
    have h := s.cnt_le n
    unfold Shp.cnt
    split <;> omega
def ir_Name.f (a0 : Int) : Option (ByteArray × Int) := if 0 ≤ a0 then (if a0 ≤ 255 then some (⟨(shpAt a0).nm.toArray⟩, (shpAt a0).cnt 3) else none) else none
set_option maxHeartbeats 4000000 in
theorem ir_Name.calls (a0 : Int) (r1 : ByteArray) (r2 : Int) (w : World) (h : ir_Name.f a0 = some (r1, r2)) :
    Calls Try.prog 21 #[.int .u8 a0] w fun e w' => e = .returned (.tuple #[.string r1, .int .i64 r2]) ∧ Below w.heap.size w w' := by
  unfold ir_Name.f at h
  by_cases h0 : 0 ≤ a0
  · rw [if_pos h0] at h
    by_cases h1 : a0 ≤ 255
    · rw [if_pos h1] at h
      obtain ⟨rfl, rfl⟩ := Prod.mk.inj (Option.some.inj h)
      have HO : ∀ w, Calls Try.prog 37 #[.int .u8 a0] w fun e w' => e = .returned (.tuple #[.agg (shpAt a0).cells.toArray, .bool (decide (a0 < 28))]) ∧ Below w.heap.size w w' := fun w => of_all a0 h0 h1 w
      clear h h0 h1
      generalize decide (a0 < 28) = bb at HO
      generalize shpAt a0 = s at HO ⊢
      replace HO := Aside0.mk HO
      go_enter Try.func21, Try.ntmps21
      go_wp2_with (first | (go_at_call 37; refine (HO.out _).mono ?_; rintro e wq ⟨rfl, hb⟩; have HB1 := Aside0.mk hb; clear hb) | (refine gate_ (.store 65 _ _) rfl ?_; refine wpList_store_row rfl 65 (.tmp 4) (.tmp 12) rfl wq.heap.size s.cells.toArray ?x1 ?x2 65 _ (blk_new wq _) ?h1 ?h2 ?h3 ?_; (case x1 => rfl); (case x2 => rfl); (case h1 => kernel_rfl); (case h2 => rfl); (case h3 => kernel_rfl); generalize hW2 : World.setRow _ _ _ = W2; have HA := Aside0.mk (after_box hW2 HB1.out); clear hW2; generalize wq.heap.size = g at HA ⊢; have hc0 : W2.cell? ⟨g, 0, none⟩ = some (.string ⟨s.nm.toArray⟩) := HA.out.2 0 _ rfl; have hc1 : W2.cell? ⟨g, 1, none⟩ = some (.int .u8 s.a) := HA.out.2 1 _ rfl; have hc2 : W2.cell? ⟨g, 2, none⟩ = some (.int .u8 s.b) := HA.out.2 2 _ rfl; have hc3 : W2.cell? ⟨g, 3, none⟩ = some (.int .u8 s.c) := HA.out.2 3 _ rfl))
      go_loop [6, 16] (fun v6 v16 => ∃ n : Nat, n ≤ 3 ∧ v16 = .int .i64 (n : Int) ∧ v6 = .int .i64 (s.cnt n)) (fun _ v16 => 3 - (intOf v16).toNat)
      case atStart => exact ⟨0, by omega, rfl, rfl⟩
      case round =>
        obtain ⟨n, hn, rfl, rfl⟩ := hrel
        by_cases hlt : n < 3
        · have hi := index3 s n hlt
          have hb := s.cnt_le n
          have HN := Aside0.mk (show s.cnt (n + 1) = if s.w n = 0 then s.cnt n else s.cnt n + 1 from rfl)
          generalize hq : s.cnt (n + 1) = q at HN
          generalize hp : s.cnt n = p at HN hb ⊢
          generalize s.w n = x at hi HN
          replace hq := Aside0.mk hq
          replace hp := Aside0.mk hp
          by_cases hx : x = 0
          · have d1 : (x != 0) = false := by simp [hx]
            have HQ := Aside0.mk (HN.out.trans (if_pos hx))
            clear hx HN
            go_wp2
            go_round
            case rel => exact ⟨n + 1, by omega, by go_num, by rw [hq.out, HQ.out]⟩
            case measure => simp [intOf]; omega
          · have d1 : (x != 0) = true := by simp [hx]
            have HQ := Aside0.mk (HN.out.trans (if_neg hx))
            clear hx HN
            go_wp2
            go_round
            case rel => exact ⟨n + 1, by omega, by go_num, by rw [hq.out, HQ.out]⟩
            case measure => simp [intOf]; omega
        · obtain rfl : n = 3 := by omega
          go_wp2
          go_ret2
          exact ⟨rfl, HA.out.1⟩
    · rw [if_neg h1] at h
      exact absurd h (by simp)
  · rw [if_neg h0] at h
    exact absurd h (by simp)

/-! ### bits_bit: function 51 -/
def bits_bit.f (a0 : Int) : Option (Int) := if a0 < 0 then (some 0) else (if a0 ≥ 64 then (some 0) else (if 0 ≤ a0 then (some (shl .u64 1 a0)) else (none)))
set_option maxHeartbeats 8000000 in
set_option maxRecDepth 100000 in
theorem bits_bit.calls (a0 : Int) (r : Int) (w : World) (h : bits_bit.f a0 = some r) :
    Calls Try.prog 51 #[.int .i64 a0] w fun e w' => e = .returned (.int .u64 r) ∧ Drawn0 w w' := by
  have H : (if a0 < 0 then (some 0) else (if a0 ≥ 64 then (some 0) else (if 0 ≤ a0 then (some (shl .u64 1 a0)) else (none)))) = some r := h
  clear h
  by_cases c2 : a0 < 0
  · rw [if_pos c2] at H
    have c2b0 : decide (a0 < 0) = true := decide_eq_true c2
    clear c2
    obtain rfl := Option.some.inj H
    go_enter Try.func51, Try.ntmps51
    go_wp2
    go_ret
    exact ⟨by first | rfl | (simp; done) | (simp [*]; done), by repeat (first | exact Drawn0.refl _ | apply Drawn0.step)⟩
  · rw [if_neg c2] at H
    have c2b0 : decide (a0 < 0) = false := decide_eq_false c2
    clear c2
    by_cases c3 : a0 ≥ 64
    · rw [if_pos c3] at H
      have c3b0 : decide (64 ≤ a0) = true := decide_eq_true c3
      clear c3
      obtain rfl := Option.some.inj H
      go_enter Try.func51, Try.ntmps51
      go_wp2
      go_ret
      exact ⟨by first | rfl | (simp; done) | (simp [*]; done), by repeat (first | exact Drawn0.refl _ | apply Drawn0.step)⟩
    · rw [if_neg c3] at H
      have c3b0 : decide (64 ≤ a0) = false := decide_eq_false c3
      clear c3
      by_cases c4 : 0 ≤ a0
      · rw [if_pos c4] at H
        have c4b0 := eq_true c4
        have c4b1 : decide (0 ≤ a0) = true := decide_eq_true c4
        clear c4
        obtain ⟨ji5, hji5⟩ : ∃ j_ : Int, (shl .u64 1 a0) = j_ := ⟨_, rfl⟩
        replace H : (some ji5) = some r := by first | (rw [hji5] at H; exact H) | (simp only [hji5] at H ⊢; exact H)
        have hji5_ : (IntKind.u64.wrap (1 * 2 ^ min a0.toNat 64)) = ji5 := hji5
        have hji5z : a0 ≤ 64 → (IntKind.u64.wrap (1 * 2 ^ a0.toNat)) = ji5 := shl_small hji5
        have hji5u : (IntKind.u64.wrap (2 ^ min a0.toNat 64)) = ji5 := by have h_ := hji5_; rw [Int.one_mul] at h_; exact h_
        have hji5v : a0 ≤ 64 → (IntKind.u64.wrap (2 ^ a0.toNat)) = ji5 := fun hle_ => by have h_ := hji5z hle_; rw [Int.one_mul] at h_; exact h_
        obtain rfl := Option.some.inj H
        go_enter Try.func51, Try.ntmps51
        go_wp2
        go_ret
        exact ⟨by first | rfl | (simp; done) | (simp only [← hji5] <;> (first | rfl | (simp; done))) | (simp [*]; done), by repeat (first | exact Drawn0.refl _ | apply Drawn0.step)⟩
      · rw [if_neg c4] at H
        exact absurd H (by simp)

/-! ### bits_With: function 47 -/
def bits_With.l0 : Nat → Int → List Int → Int → Int → Option (Int)
  | 0, _, _, _, _ => none
  | k + 1, x0, x7, x8, x9 => if x9 < x8 then (if 0 ≤ x9 then (if x9 < (x7.length : Int) then ((bits_bit.f (rd x7 x9)).bind fun t144 => (bits_With.l0 k (Go.bits .or .u64 x0 t144) x7 x8 (wrap64 (x9 + 1)))) else (none)) else (none)) else (some x0)
def bits_With.f (k : Nat) (a0 : Int) (l1 : List Int) : Option (Int) := bits_With.l0 k a0 l1 (l1.length : Int) 0
theorem bits_With.mono_l : ∀ k, (∀ y0 y1 y2 y3, LeO (bits_With.l0 k y0 y1 y2 y3) (bits_With.l0 (k + 1) y0 y1 y2 y3))
  | 0 => fun _ _ _ _ r h => by simp [bits_With.l0] at h
  | k + 1 => by
    have ih0 := bits_With.mono_l k
    · intro y0 y1 y2 y3
      unfold bits_With.l0
      repeat' first
      | (with_reducible exact ih0 _ _ _ _)
      | (with_reducible exact LeO.refl _)
      | (with_reducible exact LeO.none _)
      | (with_reducible refine LeO.ite ?_ ?_)
      | (with_reducible refine LeO.bind ?_ (fun _ => ?_))
      | exact ih0 _ _ _ _
      | exact LeO.none _
      | refine LeO.ite ?_ ?_
      | refine LeO.bind ?_ (fun _ => ?_)
theorem bits_With.mono : ∀ a0 a1 k, LeO (bits_With.f k a0 a1) (bits_With.f (k + 1) a0 a1) := by
  intro a0 a1 k
  have ih0 := bits_With.mono_l k
  unfold bits_With.f
  repeat' first
      | (with_reducible exact ih0 _ _ _ _)
      | (with_reducible exact LeO.refl _)
      | (with_reducible exact LeO.none _)
      | (with_reducible refine LeO.ite ?_ ?_)
      | (with_reducible refine LeO.bind ?_ (fun _ => ?_))
      | exact ih0 _ _ _ _
      | exact LeO.none _
      | refine LeO.ite ?_ ?_
      | refine LeO.bind ?_ (fun _ => ?_)
set_option maxHeartbeats 8000000 in
set_option maxRecDepth 100000 in
theorem bits_With.calls (k : Nat) (a0 : Int) (A1 : Option Addr) (c1 : Nat) (l1 : List Int) (r : Int) (w : World) (hr1 : Kd.C (Kd.int .i64) w A1 l1.length l1) (hc1 : l1.length ≤ c1) (h : bits_With.f k a0 l1 = some r) :
    Calls Try.prog 47 #[.int .u64 a0, .slice A1 l1.length c1] w fun e w' => e = .returned (.int .u64 r) ∧ Drawn0 w w' := by
  have HR1 := Aside0.mk hr1
  have HC1 := Aside0.mk hc1
  clear hr1 hc1
  have H : (bits_With.l0 k a0 l1 (l1.length : Int) 0) = some r := h
  clear h
  have H' := Aside0.mk H
  clear H
  go_enter Try.func47, Try.ntmps47
  go_wp2
  go_loopg [0, 9] k (fun kq v0 v9 w' => ∃ (x0_1 : Int) (x9_1 : Int), v0 = .int .u64 x0_1 ∧ v9 = .int .i64 x9_1 ∧ Aside0 (bits_With.l0 kq x0_1 l1 (l1.length : Int) x9_1 = some r) ∧ Aside0 (kq ≤ k) ∧ Drawn0 w w')
  case atStart => exact ⟨(a0), (0), (by first | rfl | (simp; done) | (simp [*]; done)), (by first | rfl | (simp; done) | (simp [*]; done)), H', ⟨Nat.le_refl _⟩, by repeat (first | exact Drawn0.refl _ | apply Drawn0.step)⟩
  case round =>
    clear H'
    try clear c1
    try clear p2
    obtain ⟨x0_1, x9_1, rfl, rfl, HA, HK1, ⟨m1, rfl⟩⟩ := hrel
    cases gk with
    | zero => exact absurd HA.out (by simp [bits_With.l0])
    | succ k1 =>
      have H := HA.out
      clear HA
      simp only [bits_With.l0] at H
      by_cases c3 : x9_1 < (l1.length : Int)
      · rw [if_pos c3] at H
        have c3b0 : decide (x9_1 < (l1.length : Int)) = true := decide_eq_true c3
        clear c3
        by_cases c4 : 0 ≤ x9_1
        · rw [if_pos c4] at H
          have c4b0 : decide (0 ≤ x9_1) = true := decide_eq_true c4
          clear c4
          by_cases c5 : x9_1 < (l1.length : Int)
          · rw [if_pos c5] at H
            have c5b0 : decide (x9_1 < (l1.length : Int)) = true := decide_eq_true c5
            clear c5
            replace H := Option.bind_eq_some_iff.mp H
            obtain ⟨t144, A60, H⟩ := H
            replace H : (bits_With.l0 k1 (Go.bits .or .u64 x0_1 t144) l1 (l1.length : Int) (wrap64 (x9_1 + 1))) = some r := H
            have A6 := Aside0.mk A60
            clear A60
            have H' := Aside0.mk H
            clear H
            have p143 : 0 ≤ (x9_1 : Int) := of_decide_eq_true (by first | (with_reducible assumption) | assumption)
            have q143 : x9_1 < (l1.length : Int) := of_decide_eq_true (by first | (with_reducible assumption) | assumption)
            obtain ⟨ad143, e143, hx143_0⟩ := Kd.at_int HR1.out x9_1 p143 q143
            cases e143
            replace p143 := eq_true p143
            replace q143 := eq_true q143
            go_wp2_with (first | ((with_reducible refine gate_callee (f := 51) rfl ?_); refine goesL_ (some 15) rfl rfl Try.func51 (by kernel_rfl) rfl #[.int .i64 (rd l1 x9_1)] rfl (by (try simp only [List.map_toArray, List.map_cons, List.map_nil]); first | done | rfl | (simp only [List.length_drop, List.length_take]; rfl)) ?_; (with_reducible refine (bits_bit.calls (rd l1 x9_1) t144 _ A6.out).mono ?_); rintro e w' ⟨rfl, ⟨nd, rfl⟩⟩; refine ⟨_, rfl, ?_⟩))
            go_roundg k1
            case measure => have := HK1.out; omega
            case rel => exact ⟨(Go.bits .or .u64 x0_1 t144), (wrap64 (x9_1 + 1)), (by first | rfl | (simp; done) | (simp [*]; done)), (by first | rfl | (simp; done) | (simp [*]; done)), H', ⟨by have := HK1.out; omega⟩, by repeat (first | exact Drawn0.refl _ | apply Drawn0.step)⟩
          · rw [if_neg c5] at H
            exact absurd H (by simp)
        · rw [if_neg c4] at H
          exact absurd H (by simp)
      · rw [if_neg c3] at H
        have c3b0 : decide (x9_1 < (l1.length : Int)) = false := decide_eq_false c3
        clear c3
        obtain rfl := Option.some.inj H
        go_wp2
        go_ret
        exact ⟨by first | rfl | (simp; done) | (simp [*]; done), by repeat (first | exact Drawn0.refl _ | apply Drawn0.step)⟩

/-! ### ir_registers: function 40 -/
def regTo (k : Nat) (s : Shp) (x : Nat → Int) (wd : Int) : Nat → Option Int
  | 0 => some 0
  | n + 1 => (regTo k s x wd n).bind fun o => if s.w n = wd then bits_With.f k o [x n] else some o
theorem regTo_mono (k : Nat) (s : Shp) (x : Nat → Int) (wd : Int) : ∀ n, LeO (regTo k s x wd n) (regTo (k + 1) s x wd n)
  | 0 => LeO.refl _
  | n + 1 => LeO.bind (regTo_mono k s x wd n) (fun o => LeO.ite (bits_With.mono _ _ _) (LeO.refl _))
theorem regTo_down {k : Nat} {s : Shp} {x : Nat → Int} {wd : Int} {n : Nat} {r : Int} (h : regTo k s x wd (n + 1) = some r) : ∃ o, regTo k s x wd n = some o ∧ (if s.w n = wd then bits_With.f k o [x n] else some o) = some r := Option.bind_eq_some_iff.1 h
def ir_registers.f (k : Nat) (a0_0 : Int) (a0_1 : Int) (a0_2 : Int) (a0_3 : Int) (a1 : Int) : Option (Int) := if 0 ≤ a0_0 then (if a0_0 ≤ 255 then regTo k (shpAt a0_0) (xyz a0_1 a0_2 a0_3) a1 3 else none) else none
theorem ir_registers.mono : ∀ a0 a1 a2 a3 a4 k, LeO (ir_registers.f k a0 a1 a2 a3 a4) (ir_registers.f (k + 1) a0 a1 a2 a3 a4) := fun _ _ _ _ _ k => LeO.ite (LeO.ite (regTo_mono k _ _ _ 3) (LeO.none _)) (LeO.none _)
theorem one_C (W : World) (x : Int) (t : Nat) : Kd.C (Kd.int .i64) (W.alloc (.cells #[.int .i64 x] t)) (some ⟨W.heap.size, 0, none⟩) [x].length [x] := by
  refine Kd.C_of_reads (d := (0 : Int)) ⟨rfl, by simp, fun _ => ⟨_, rfl, fun j hj => ?_⟩⟩
  obtain rfl : j = 0 := by simp at hj; omega
  rw [add_plain]
  exact (blk_cell (blk_new W _) 0).trans rfl
theorem regTo_some {k : Nat} {s : Shp} {x : Nat → Int} {wd r : Int} {n : Nat} : ∀ m, regTo k s x wd (n + m) = some r → ∃ o, regTo k s x wd n = some o
  | 0, h => ⟨r, h⟩
  | m + 1, h => by
    obtain ⟨o, h1, _⟩ := regTo_down h
    exact regTo_some (r := o) m h1
theorem regTo_next {k : Nat} {s : Shp} {x : Nat → Int} {wd r o : Int} {n : Nat} (h : regTo k s x wd 3 = some r) (hn : n < 3) (ho : regTo k s x wd n = some o) : ∃ q, regTo k s x wd (n + 1) = some q ∧ (s.w n = wd → bits_With.f k o [x n] = some q) ∧ (s.w n ≠ wd → q = o) := by
  obtain ⟨q, hq⟩ := regTo_some (n := n + 1) (2 - n) (by rw [show n + 1 + (2 - n) = 3 by omega]; exact h)
  obtain ⟨o', h1, h2⟩ := regTo_down hq
  obtain rfl := Option.some.inj (ho.symm.trans h1)
  refine ⟨q, hq, fun e => by rw [if_pos e] at h2; exact h2, fun e => by rw [if_neg e] at h2; exact (Option.some.inj h2).symm⟩
set_option maxHeartbeats 4000000 in
theorem ir_registers.calls (k : Nat) (a0_0 : Int) (a0_1 : Int) (a0_2 : Int) (a0_3 : Int) (a1 : Int) (r : Int) (w : World) (h : ir_registers.f k a0_0 a0_1 a0_2 a0_3 a1 = some r) :
    Calls Try.prog 40 #[.agg #[.int .u8 a0_0, .int .i64 a0_1, .int .i64 a0_2, .int .i64 a0_3], .int .u8 a1] w fun e w' => e = .returned (.int .u64 r) ∧ Below w.heap.size w w' := by
  unfold ir_registers.f at h
  by_cases h0 : 0 ≤ a0_0
  · rw [if_pos h0] at h
    by_cases h1 : a0_0 ≤ 255
    · rw [if_pos h1] at h
      have HO : ∀ w, Calls Try.prog 37 #[.int .u8 a0_0] w fun e w' => e = .returned (.tuple #[.agg (shpAt a0_0).cells.toArray, .bool (decide (a0_0 < 28))]) ∧ Below w.heap.size w w' := fun w => of_all a0_0 h0 h1 w
      clear h0 h1
      generalize decide (a0_0 < 28) = bb at HO
      generalize shpAt a0_0 = s at HO h
      replace HO := Aside0.mk HO
      have HR := Aside0.mk h
      clear h
      have HB0 := Aside0.mk (below_alloc (Below.refl w.heap.size w) (.cells #[.int .u8 a0_0, .int .i64 a0_1, .int .i64 a0_2, .int .i64 a0_3] 30))
      go_enter Try.func40, Try.ntmps40
      go_wp2_with (first | (go_at_call 37; refine (HO.out _).mono ?_; rintro e wq ⟨rfl, hb⟩; have HB1 := Aside0.mk hb; clear hb) | (refine gate_ (.store 65 _ _) rfl ?_; refine wpList_store_row rfl 65 (.tmp 5) (.tmp 14) rfl wq.heap.size s.cells.toArray ?x1 ?x2 65 _ (blk_new wq _) ?h1 ?h2 ?h3 ?_; (case x1 => rfl); (case x2 => rfl); (case h1 => kernel_rfl); (case h2 => rfl); (case h3 => kernel_rfl); generalize hW2 : World.setRow _ _ _ = W2; have HA := Aside0.mk (after_box hW2 HB1.out); clear hW2; generalize wq.heap.size = g at HA ⊢; have HX := Aside0.mk (blk_below (blk_new w _) HA.out.1); have hd1 := (blk_cell HX.out 1).trans rfl; have hd2 := (blk_cell HX.out 2).trans rfl; have hd3 := (blk_cell HX.out 3).trans rfl))
      clear hd1 hd2 hd3
      have HBW := Aside0.mk (below_open HA.out.1)
      have HC := Aside0.mk HA.out.2
      clear HA HX HB0 HO
      go_loopw [7, 23] (fun v7 v23 wr => ∃ (n : Nat) (o : Int), n ≤ 3 ∧ v23 = .int .i64 (n : Int) ∧ v7 = .int .u64 o ∧ Aside0 (regTo k s (xyz a0_1 a0_2 a0_3) a1 n = some o) ∧ Aside0 (Below W2.heap.size W2 wr)) (fun _ v23 _ => 3 - (intOf v23).toNat)
      case atStart => exact ⟨0, 0, by omega, rfl, rfl, ⟨rfl⟩, ⟨Below.refl _ _⟩⟩
      case round =>
        obtain ⟨n, o, hn, rfl, rfl, HRn, HBn⟩ := hrel
        by_cases hlt : n < 3
        · obtain ⟨q, hq1, hq2, hq3⟩ := regTo_next HR.out hlt HRn.out
          have HQ := Aside0.mk hq1
          have hi := indexI a0_1 a0_2 a0_3 n hlt
          have hcn := pw_cell_below HBn.out (shp_at HC.out n hlt)
          clear hq1
          generalize xyz a0_1 a0_2 a0_3 n = x at hq2 hi
          generalize s.w n = y at hq2 hq3 hcn
          by_cases hy : y = a1
          · have HW := Aside0.mk (hq2 hy)
            have d1 : (y == a1) = true := by simp [hy]
            clear hq2 hq3 hy
            go_wp2_with (go_at_call 47; refine (bits_With.calls k o (some ⟨wr.heap.size, 0, none⟩) 1 [x] q _ (one_C wr x 3) (by simp) HW.out).mono ?_; rintro e w' ⟨rfl, ⟨nd, rfl⟩⟩)
            go_roundw
            case rel => exact ⟨n + 1, q, by omega, by go_num, rfl, HQ, ⟨pw_below_drewN (below_alloc HBn.out _) _⟩⟩
            case measure => simp [intOf]; omega
          · have HW := Aside0.mk (hq3 hy)
            have d1 : (y == a1) = false := by simp [hy]
            clear hq2 hq3 hy
            go_wp2
            go_roundw
            case rel => exact ⟨n + 1, q, by omega, by go_num, by rw [HW.out], HQ, HBn⟩
            case measure => simp [intOf]; omega
        · obtain rfl : n = 3 := by omega
          obtain rfl : o = r := Option.some.inj (HRn.out.symm.trans HR.out)
          go_wp2
          go_ret
          exact ⟨rfl, below_step HBW.out HBn.out⟩
    · rw [if_neg h1] at h
      exact absurd h (by simp)
  · rw [if_neg h0] at h
    exact absurd h (by simp)

/-! ### ir_Uses: function 23 -/
def ir_Uses.f (k : Nat) (a0_0 : Int) (a0_1 : Int) (a0_2 : Int) (a0_3 : Int) : Option (Int) := (ir_registers.f k a0_0 a0_1 a0_2 a0_3 3).bind fun t146 => (some t146)
theorem ir_Uses.mono : ∀ a0 a1 a2 a3 k, LeO (ir_Uses.f k a0 a1 a2 a3) (ir_Uses.f (k + 1) a0 a1 a2 a3) := by
  intro a0 a1 a2 a3 k
  unfold ir_Uses.f
  repeat' first
      | (with_reducible exact ir_registers.mono _ _ _ _ _ _)
      | (with_reducible exact LeO.refl _)
      | (with_reducible exact LeO.none _)
      | (with_reducible refine LeO.ite ?_ ?_)
      | (with_reducible refine LeO.bind ?_ (fun _ => ?_))
      | exact ir_registers.mono _ _ _ _ _ _
      | exact LeO.none _
      | refine LeO.ite ?_ ?_
      | refine LeO.bind ?_ (fun _ => ?_)
set_option maxHeartbeats 8000000 in
set_option maxRecDepth 100000 in
theorem ir_Uses.calls (k : Nat) (a0_0 : Int) (a0_1 : Int) (a0_2 : Int) (a0_3 : Int) (r : Int) (w : World) (h : ir_Uses.f k a0_0 a0_1 a0_2 a0_3 = some r) :
    Calls Try.prog 23 #[.agg #[.int .u8 a0_0, .int .i64 a0_1, .int .i64 a0_2, .int .i64 a0_3]] w fun e w' => e = .returned (.int .u64 r) ∧ Below w.heap.size w w' := by
  have hu30 := Try.underlying30
  have HB := Aside0.mk (Below.refl w.heap.size w)
  have H : ((ir_registers.f k a0_0 a0_1 a0_2 a0_3 3).bind fun t146 => (some t146)) = some r := h
  clear h
  replace H := Option.bind_eq_some_iff.mp H
  obtain ⟨t146, A20, H⟩ := H
  replace H : (some t146) = some r := H
  have A2 := Aside0.mk A20
  clear A20
  obtain rfl := Option.some.inj H
  go_enter Try.func23, Try.ntmps23
  go_wp2_with (first | ((with_reducible refine gate_dst (N := 1) rfl ?_); refine box_event ?hg (N := 1) ?hd (cs := #[.int .u8 a0_0, .int .i64 a0_1, .int .i64 a0_2, .int .i64 a0_3]) (t := 30) ?hr ?_; (case hd => rfl); (case hg => rfl); (case hr => first | (go_simp; done) | (go_simp; rfl)); intro gb145 hg w3 hbox hb; have n0_ := Aside0.mk (below_step (by repeat (first | (with_reducible first | exact HB.out | apply below_alloc | apply pw_below_drewN | apply below_drew1) | exact HB.out)) hb); have n1_ := Aside0.mk (hbox); have n2_ := Aside0.mk ((by rw [hg]; exact (below_size (by repeat (first | (with_reducible first | exact HB.out | apply below_alloc | apply pw_below_drewN | apply below_drew1) | exact HB.out))) : w.heap.size ≤ gb145)); have n3_ := Aside0.mk ((by rw [hg]; exact (below_size (by repeat (first | (with_reducible first | exact HB.out | apply below_alloc | apply pw_below_drewN | apply below_drew1) | exact HB.out))) : w.heap.size ≤ gb145)); clear HB; have HB := n0_; have BK145 := n1_; have GW145 := n2_; have GE145 := n3_; clear n0_ n1_ n2_ n3_; clear hb hbox hg; have hcz4_0 : w3.cell? ⟨gb145, 0, none⟩ = some (.int .u8 a0_0) := (blk_cell BK145.out 0).trans rfl; have hcz4_1 : w3.cell? ⟨gb145, 1, none⟩ = some (.int .i64 a0_1) := (blk_cell BK145.out 1).trans rfl; have hcz4_2 : w3.cell? ⟨gb145, 2, none⟩ = some (.int .i64 a0_2) := (blk_cell BK145.out 2).trans rfl; have hcz4_3 : w3.cell? ⟨gb145, 3, none⟩ = some (.int .i64 a0_3) := (blk_cell BK145.out 3).trans rfl; have hfz4_0 := blk_frozen BK145.out 0; have hfz4_1 := blk_frozen BK145.out 1; have hfz4_2 := blk_frozen BK145.out 2; have hfz4_3 := blk_frozen BK145.out 3) | ((with_reducible refine gate_callee (f := 40) rfl ?_); refine goesL_ (some 4) rfl rfl Try.func40 (by kernel_rfl) rfl #[.agg #[.int .u8 a0_0, .int .i64 a0_1, .int .i64 a0_2, .int .i64 a0_3], .int .u8 3] rfl (by (try simp only [List.map_toArray, List.map_cons, List.map_nil]); first | done | rfl | (simp only [List.length_drop, List.length_take]; rfl)) ?_; (with_reducible refine (ir_registers.calls k a0_0 a0_1 a0_2 a0_3 3 t146 _ A2.out).mono ?_); rintro e w5 ⟨rfl, hb⟩; refine ⟨_, rfl, ?_⟩; have n0_ := Aside0.mk (blk_below (g := gb145) (o := .cells #[.int .u8 a0_0, .int .i64 a0_1, .int .i64 a0_2, .int .i64 a0_3] 30 (0, 0)) (by (with_reducible repeat (first | refine blk_drewN ?_ _ | refine blk_drew ?_ | refine blk_alloc ?_ _)); exact BK145.out) hb); have n1_ := Aside0.mk (below_step (by repeat (first | (with_reducible first | exact HB.out | apply below_alloc | apply pw_below_drewN | apply below_drew1 | refine below_set ?_ GE145.out) | exact HB.out)) hb); clear BK145; clear HB; have BK145 := n0_; have HB := n1_; clear n0_ n1_; (try clear hb); (try clear hb2); (try clear hk); (try clear hi)))
  go_ret
  exact ⟨by first | rfl | (simp [errW_none, errW_some] <;> rfl) | (simp [*, errW_none, errW_some] <;> rfl), by repeat (first | (with_reducible first | exact HB.out | apply below_alloc | apply pw_below_drewN | apply below_drew1 | refine below_set ?_ GE145.out) | exact HB.out)⟩

/-! ### ir_Sets: function 25 -/
def ir_Sets.f (k : Nat) (a0_0 : Int) (a0_1 : Int) (a0_2 : Int) (a0_3 : Int) : Option (Int) := (ir_registers.f k a0_0 a0_1 a0_2 a0_3 2).bind fun t148 => (some t148)
theorem ir_Sets.mono : ∀ a0 a1 a2 a3 k, LeO (ir_Sets.f k a0 a1 a2 a3) (ir_Sets.f (k + 1) a0 a1 a2 a3) := by
  intro a0 a1 a2 a3 k
  unfold ir_Sets.f
  repeat' first
      | (with_reducible exact ir_registers.mono _ _ _ _ _ _)
      | (with_reducible exact LeO.refl _)
      | (with_reducible exact LeO.none _)
      | (with_reducible refine LeO.ite ?_ ?_)
      | (with_reducible refine LeO.bind ?_ (fun _ => ?_))
      | exact ir_registers.mono _ _ _ _ _ _
      | exact LeO.none _
      | refine LeO.ite ?_ ?_
      | refine LeO.bind ?_ (fun _ => ?_)
set_option maxHeartbeats 8000000 in
set_option maxRecDepth 100000 in
theorem ir_Sets.calls (k : Nat) (a0_0 : Int) (a0_1 : Int) (a0_2 : Int) (a0_3 : Int) (r : Int) (w : World) (h : ir_Sets.f k a0_0 a0_1 a0_2 a0_3 = some r) :
    Calls Try.prog 25 #[.agg #[.int .u8 a0_0, .int .i64 a0_1, .int .i64 a0_2, .int .i64 a0_3]] w fun e w' => e = .returned (.int .u64 r) ∧ Below w.heap.size w w' := by
  have hu30 := Try.underlying30
  have HB := Aside0.mk (Below.refl w.heap.size w)
  have H : ((ir_registers.f k a0_0 a0_1 a0_2 a0_3 2).bind fun t148 => (some t148)) = some r := h
  clear h
  replace H := Option.bind_eq_some_iff.mp H
  obtain ⟨t148, A20, H⟩ := H
  replace H : (some t148) = some r := H
  have A2 := Aside0.mk A20
  clear A20
  obtain rfl := Option.some.inj H
  go_enter Try.func25, Try.ntmps25
  go_wp2_with (first | ((with_reducible refine gate_dst (N := 1) rfl ?_); refine box_event ?hg (N := 1) ?hd (cs := #[.int .u8 a0_0, .int .i64 a0_1, .int .i64 a0_2, .int .i64 a0_3]) (t := 30) ?hr ?_; (case hd => rfl); (case hg => rfl); (case hr => first | (go_simp; done) | (go_simp; rfl)); intro gb147 hg w3 hbox hb; have n0_ := Aside0.mk (below_step (by repeat (first | (with_reducible first | exact HB.out | apply below_alloc | apply pw_below_drewN | apply below_drew1) | exact HB.out)) hb); have n1_ := Aside0.mk (hbox); have n2_ := Aside0.mk ((by rw [hg]; exact (below_size (by repeat (first | (with_reducible first | exact HB.out | apply below_alloc | apply pw_below_drewN | apply below_drew1) | exact HB.out))) : w.heap.size ≤ gb147)); have n3_ := Aside0.mk ((by rw [hg]; exact (below_size (by repeat (first | (with_reducible first | exact HB.out | apply below_alloc | apply pw_below_drewN | apply below_drew1) | exact HB.out))) : w.heap.size ≤ gb147)); clear HB; have HB := n0_; have BK147 := n1_; have GW147 := n2_; have GE147 := n3_; clear n0_ n1_ n2_ n3_; clear hb hbox hg; have hcz4_0 : w3.cell? ⟨gb147, 0, none⟩ = some (.int .u8 a0_0) := (blk_cell BK147.out 0).trans rfl; have hcz4_1 : w3.cell? ⟨gb147, 1, none⟩ = some (.int .i64 a0_1) := (blk_cell BK147.out 1).trans rfl; have hcz4_2 : w3.cell? ⟨gb147, 2, none⟩ = some (.int .i64 a0_2) := (blk_cell BK147.out 2).trans rfl; have hcz4_3 : w3.cell? ⟨gb147, 3, none⟩ = some (.int .i64 a0_3) := (blk_cell BK147.out 3).trans rfl; have hfz4_0 := blk_frozen BK147.out 0; have hfz4_1 := blk_frozen BK147.out 1; have hfz4_2 := blk_frozen BK147.out 2; have hfz4_3 := blk_frozen BK147.out 3) | ((with_reducible refine gate_callee (f := 40) rfl ?_); refine goesL_ (some 4) rfl rfl Try.func40 (by kernel_rfl) rfl #[.agg #[.int .u8 a0_0, .int .i64 a0_1, .int .i64 a0_2, .int .i64 a0_3], .int .u8 2] rfl (by (try simp only [List.map_toArray, List.map_cons, List.map_nil]); first | done | rfl | (simp only [List.length_drop, List.length_take]; rfl)) ?_; (with_reducible refine (ir_registers.calls k a0_0 a0_1 a0_2 a0_3 2 t148 _ A2.out).mono ?_); rintro e w5 ⟨rfl, hb⟩; refine ⟨_, rfl, ?_⟩; have n0_ := Aside0.mk (blk_below (g := gb147) (o := .cells #[.int .u8 a0_0, .int .i64 a0_1, .int .i64 a0_2, .int .i64 a0_3] 30 (0, 0)) (by (with_reducible repeat (first | refine blk_drewN ?_ _ | refine blk_drew ?_ | refine blk_alloc ?_ _)); exact BK147.out) hb); have n1_ := Aside0.mk (below_step (by repeat (first | (with_reducible first | exact HB.out | apply below_alloc | apply pw_below_drewN | apply below_drew1 | refine below_set ?_ GE147.out) | exact HB.out)) hb); clear BK147; clear HB; have BK147 := n0_; have HB := n1_; clear n0_ n1_; (try clear hb); (try clear hb2); (try clear hk); (try clear hi)))
  go_ret
  exact ⟨by first | rfl | (simp [errW_none, errW_some] <;> rfl) | (simp [*, errW_none, errW_some] <;> rfl), by repeat (first | (with_reducible first | exact HB.out | apply below_alloc | apply pw_below_drewN | apply below_drew1 | refine below_set ?_ GE147.out) | exact HB.out)⟩

/-! ### ir_Find: function 27 -/
theorem SH_index_0 (w : World) : (Instr.index 73 (.agg SH) (.int .i64 (0 : Nat))).run Try.prog w = .ok (.agg (shpTab.getD 0 Shp.zero).cells.toArray) w := by kernel_rfl
theorem SH_index_1 (w : World) : (Instr.index 73 (.agg SH) (.int .i64 (1 : Nat))).run Try.prog w = .ok (.agg (shpTab.getD 1 Shp.zero).cells.toArray) w := by kernel_rfl
theorem SH_index_2 (w : World) : (Instr.index 73 (.agg SH) (.int .i64 (2 : Nat))).run Try.prog w = .ok (.agg (shpTab.getD 2 Shp.zero).cells.toArray) w := by kernel_rfl
theorem SH_index_3 (w : World) : (Instr.index 73 (.agg SH) (.int .i64 (3 : Nat))).run Try.prog w = .ok (.agg (shpTab.getD 3 Shp.zero).cells.toArray) w := by kernel_rfl
theorem SH_index_4 (w : World) : (Instr.index 73 (.agg SH) (.int .i64 (4 : Nat))).run Try.prog w = .ok (.agg (shpTab.getD 4 Shp.zero).cells.toArray) w := by kernel_rfl
theorem SH_index_5 (w : World) : (Instr.index 73 (.agg SH) (.int .i64 (5 : Nat))).run Try.prog w = .ok (.agg (shpTab.getD 5 Shp.zero).cells.toArray) w := by kernel_rfl
theorem SH_index_6 (w : World) : (Instr.index 73 (.agg SH) (.int .i64 (6 : Nat))).run Try.prog w = .ok (.agg (shpTab.getD 6 Shp.zero).cells.toArray) w := by kernel_rfl
theorem SH_index_7 (w : World) : (Instr.index 73 (.agg SH) (.int .i64 (7 : Nat))).run Try.prog w = .ok (.agg (shpTab.getD 7 Shp.zero).cells.toArray) w := by kernel_rfl
theorem SH_index_8 (w : World) : (Instr.index 73 (.agg SH) (.int .i64 (8 : Nat))).run Try.prog w = .ok (.agg (shpTab.getD 8 Shp.zero).cells.toArray) w := by kernel_rfl
theorem SH_index_9 (w : World) : (Instr.index 73 (.agg SH) (.int .i64 (9 : Nat))).run Try.prog w = .ok (.agg (shpTab.getD 9 Shp.zero).cells.toArray) w := by kernel_rfl
theorem SH_index_10 (w : World) : (Instr.index 73 (.agg SH) (.int .i64 (10 : Nat))).run Try.prog w = .ok (.agg (shpTab.getD 10 Shp.zero).cells.toArray) w := by kernel_rfl
theorem SH_index_11 (w : World) : (Instr.index 73 (.agg SH) (.int .i64 (11 : Nat))).run Try.prog w = .ok (.agg (shpTab.getD 11 Shp.zero).cells.toArray) w := by kernel_rfl
theorem SH_index_12 (w : World) : (Instr.index 73 (.agg SH) (.int .i64 (12 : Nat))).run Try.prog w = .ok (.agg (shpTab.getD 12 Shp.zero).cells.toArray) w := by kernel_rfl
theorem SH_index_13 (w : World) : (Instr.index 73 (.agg SH) (.int .i64 (13 : Nat))).run Try.prog w = .ok (.agg (shpTab.getD 13 Shp.zero).cells.toArray) w := by kernel_rfl
theorem SH_index_14 (w : World) : (Instr.index 73 (.agg SH) (.int .i64 (14 : Nat))).run Try.prog w = .ok (.agg (shpTab.getD 14 Shp.zero).cells.toArray) w := by kernel_rfl
theorem SH_index_15 (w : World) : (Instr.index 73 (.agg SH) (.int .i64 (15 : Nat))).run Try.prog w = .ok (.agg (shpTab.getD 15 Shp.zero).cells.toArray) w := by kernel_rfl
theorem SH_index_16 (w : World) : (Instr.index 73 (.agg SH) (.int .i64 (16 : Nat))).run Try.prog w = .ok (.agg (shpTab.getD 16 Shp.zero).cells.toArray) w := by kernel_rfl
theorem SH_index_17 (w : World) : (Instr.index 73 (.agg SH) (.int .i64 (17 : Nat))).run Try.prog w = .ok (.agg (shpTab.getD 17 Shp.zero).cells.toArray) w := by kernel_rfl
theorem SH_index_18 (w : World) : (Instr.index 73 (.agg SH) (.int .i64 (18 : Nat))).run Try.prog w = .ok (.agg (shpTab.getD 18 Shp.zero).cells.toArray) w := by kernel_rfl
theorem SH_index_19 (w : World) : (Instr.index 73 (.agg SH) (.int .i64 (19 : Nat))).run Try.prog w = .ok (.agg (shpTab.getD 19 Shp.zero).cells.toArray) w := by kernel_rfl
theorem SH_index_20 (w : World) : (Instr.index 73 (.agg SH) (.int .i64 (20 : Nat))).run Try.prog w = .ok (.agg (shpTab.getD 20 Shp.zero).cells.toArray) w := by kernel_rfl
theorem SH_index_21 (w : World) : (Instr.index 73 (.agg SH) (.int .i64 (21 : Nat))).run Try.prog w = .ok (.agg (shpTab.getD 21 Shp.zero).cells.toArray) w := by kernel_rfl
theorem SH_index_22 (w : World) : (Instr.index 73 (.agg SH) (.int .i64 (22 : Nat))).run Try.prog w = .ok (.agg (shpTab.getD 22 Shp.zero).cells.toArray) w := by kernel_rfl
theorem SH_index_23 (w : World) : (Instr.index 73 (.agg SH) (.int .i64 (23 : Nat))).run Try.prog w = .ok (.agg (shpTab.getD 23 Shp.zero).cells.toArray) w := by kernel_rfl
theorem SH_index_24 (w : World) : (Instr.index 73 (.agg SH) (.int .i64 (24 : Nat))).run Try.prog w = .ok (.agg (shpTab.getD 24 Shp.zero).cells.toArray) w := by kernel_rfl
theorem SH_index_25 (w : World) : (Instr.index 73 (.agg SH) (.int .i64 (25 : Nat))).run Try.prog w = .ok (.agg (shpTab.getD 25 Shp.zero).cells.toArray) w := by kernel_rfl
theorem SH_index_26 (w : World) : (Instr.index 73 (.agg SH) (.int .i64 (26 : Nat))).run Try.prog w = .ok (.agg (shpTab.getD 26 Shp.zero).cells.toArray) w := by kernel_rfl
theorem SH_index_27 (w : World) : (Instr.index 73 (.agg SH) (.int .i64 (27 : Nat))).run Try.prog w = .ok (.agg (shpTab.getD 27 Shp.zero).cells.toArray) w := by kernel_rfl
theorem SH_index (n : Nat) (h : n < 28) (w : World) : (Instr.index 73 (.agg SH) (.int .i64 n)).run Try.prog w = .ok (.agg (shpTab.getD n Shp.zero).cells.toArray) w := by
  match n, h with
  | 0, _ => exact SH_index_0 w
  | 1, _ => exact SH_index_1 w
  | 2, _ => exact SH_index_2 w
  | 3, _ => exact SH_index_3 w
  | 4, _ => exact SH_index_4 w
  | 5, _ => exact SH_index_5 w
  | 6, _ => exact SH_index_6 w
  | 7, _ => exact SH_index_7 w
  | 8, _ => exact SH_index_8 w
  | 9, _ => exact SH_index_9 w
  | 10, _ => exact SH_index_10 w
  | 11, _ => exact SH_index_11 w
  | 12, _ => exact SH_index_12 w
  | 13, _ => exact SH_index_13 w
  | 14, _ => exact SH_index_14 w
  | 15, _ => exact SH_index_15 w
  | 16, _ => exact SH_index_16 w
  | 17, _ => exact SH_index_17 w
  | 18, _ => exact SH_index_18 w
  | 19, _ => exact SH_index_19 w
  | 20, _ => exact SH_index_20 w
  | 21, _ => exact SH_index_21 w
  | 22, _ => exact SH_index_22 w
  | 23, _ => exact SH_index_23 w
  | 24, _ => exact SH_index_24 w
  | 25, _ => exact SH_index_25 w
  | 26, _ => exact SH_index_26 w
  | 27, _ => exact SH_index_27 w
  | n + 28, h => exact absurd h (by omega)
def findN (a : ByteArray) : Nat → Option Nat
  | 0 => none
  | n + 1 => match findN a n with | some i => some i | none => if (shpTab.getD n Shp.zero).nm = a.data.toList then some n else none
def ir_Find.f (a0 : ByteArray) : Option (Int × Bool) := some (match findN a0 28 with | some i => ((i : Int), true) | none => (0, false))
theorem findN_none {a : ByteArray} {n : Nat} (h : findN a n = none) (hx : (shpTab.getD n Shp.zero).nm ≠ a.data.toList) : findN a (n + 1) = none := by
  simp only [findN, h]
  exact if_neg hx
theorem findN_some {a : ByteArray} {n : Nat} (h : findN a n = none) (hx : (shpTab.getD n Shp.zero).nm = a.data.toList) : findN a (n + 1) = some n := by
  simp only [findN, h]
  exact if_pos hx
theorem findN_up {a : ByteArray} {n i : Nat} (h : findN a n = some i) : ∀ d, findN a (n + d) = some i
  | 0 => h
  | d + 1 => by
    have h1 := findN_up h d
    rw [show n + (d + 1) = (n + d) + 1 by omega]
    simp only [findN, h1]
set_option maxHeartbeats 4000000 in
set_option maxRecDepth 100000 in
theorem ir_Find.calls (a0 : ByteArray) (r1 : Int) (r2 : Bool) (w : World) (h : ir_Find.f a0 = some (r1, r2)) :
    Calls Try.prog 27 #[.string a0] w fun e w' => e = .returned (.tuple #[.int .u8 r1, .bool r2]) ∧ Below w.heap.size w w' := by
  have HF := Aside0.mk h
  clear h
  go_enter Try.func27, Try.ntmps27
  go_wp2_with (go_at_call 42; refine (shapes _).mono ?_; rintro e wq ⟨rfl, hb⟩; have HB1 := Aside0.mk hb; clear hb)
  go_loopw [7] (fun v7 wr => ∃ n : Nat, n ≤ 28 ∧ v7 = .int .i64 (n : Int) ∧ Aside0 (findN a0 n = none) ∧ Aside0 (Below w.heap.size w wr)) (fun v7 _ => 28 - (intOf v7).toNat)
  case atStart => exact ⟨0, by omega, rfl, ⟨rfl⟩, HB1⟩
  case round =>
    obtain ⟨n, hn, rfl, HN, HB⟩ := hrel
    by_cases hlt : n < 28
    · have hi := SH_index n hlt
      have hno := Aside0.mk (@findN_none a0 n HN.out)
      have hyes := Aside0.mk (@findN_some a0 n HN.out)
      generalize shpTab.getD n Shp.zero = s at hi hno hyes
      by_cases hs : s.nm = a0.data.toList
      · have HY := Aside0.mk (hyes.out hs)
        have d1 : (s.nm == a0.toList) = true := by rw [Go.ByteArray.toList_eq]; exact beq_iff_eq.2 hs
        clear hs
        have HF2 := HF.out
        unfold ir_Find.f at HF2
        rw [show 28 = n + 1 + (27 - n) by omega, findN_up HY.out (27 - n)] at HF2
        obtain ⟨e1, e2⟩ := Prod.mk.inj (Option.some.inj HF2)
        replace HF2 := Aside0.mk (And.intro e1 e2)
        clear e1 e2
        go_wp2_with (refine gate_ (.store 65 _ _) rfl ?_; refine wpList_store_row rfl 65 (.tmp 5) (.tmp 10) rfl wr.heap.size s.cells.toArray ?x1 ?x2 65 _ (blk_new wr _) ?h1 ?h2 ?h3 ?_; (case x1 => rfl); (case x2 => rfl); (case h1 => kernel_rfl); (case h2 => rfl); (case h3 => kernel_rfl); generalize hW2 : World.setRow _ _ _ = W2; have HA := Aside0.mk (after_box hW2 HB.out); clear hW2; generalize wr.heap.size = g at HA ⊢; have hc0 : W2.cell? ⟨g, 0, none⟩ = some (.string ⟨s.nm.toArray⟩) := HA.out.2 0 _ rfl)
        go_ret2
        exact ⟨by rw [← HF2.out.1, ← HF2.out.2]; rfl, HA.out.1⟩
      · have HY := Aside0.mk (hno.out hs)
        have d1 : (s.nm == a0.toList) = false := by rw [Go.ByteArray.toList_eq]; exact beq_eq_false_iff_ne.2 hs
        clear hs
        go_wp2_with (refine gate_ (.store 65 _ _) rfl ?_; refine wpList_store_row rfl 65 (.tmp 5) (.tmp 10) rfl wr.heap.size s.cells.toArray ?x1 ?x2 65 _ (blk_new wr _) ?h1 ?h2 ?h3 ?_; (case x1 => rfl); (case x2 => rfl); (case h1 => kernel_rfl); (case h2 => rfl); (case h3 => kernel_rfl); generalize hW2 : World.setRow _ _ _ = W2; have HA := Aside0.mk (after_box hW2 HB.out); clear hW2; generalize wr.heap.size = g at HA ⊢; have hc0 : W2.cell? ⟨g, 0, none⟩ = some (.string ⟨s.nm.toArray⟩) := HA.out.2 0 _ rfl)
        go_roundw
        case rel => exact ⟨n + 1, by omega, by go_num, HY, ⟨HA.out.1⟩⟩
        case measure => simp [intOf]; omega
    · obtain rfl : n = 28 := by omega
      have HF2 := HF.out
      unfold ir_Find.f at HF2
      rw [HN.out] at HF2
      obtain ⟨rfl, rfl⟩ := Prod.mk.inj (Option.some.inj HF2)
      replace HF2 := Aside0.mk HF2
      go_wp2
      go_ret2
      exact ⟨rfl, HB.out⟩

/-! ### interlocklaw02_known: function 11 -/
def interlocklaw02_known.f (k : Nat)  : Option (Bool) := (ir_Name.f 8).bind fun bt149 => ((ir_Find.f (⟨#[112, 111, 108, 108]⟩ : ByteArray)).bind fun bt151 => (if bt149.1.toList = ([115, 116, 111, 114, 101] : List UInt8) then (if bt149.2 = 2 then (if bt151.2 = true then (if bt151.1 = 22 then ((ir_Uses.f k 3 0 1 2).bind fun t153 => (if t153 = 6 then ((ir_Sets.f k 3 0 1 2).bind fun t154 => (if t154 = 1 then ((ir_Sound.f 0 0 0 ([] : List Int) 0 0 ([] : List (List (S30)))).bind fun t155 => (if t155 = 3 then ((ir_Sound.f 0 0 0 ([] : List Int) 0 0 (([[]] : List (List (S30))))).bind fun t159 => (if t159 = 0 then ((ir_Plain.f 7).bind fun t160 => (if t160 = true then ((ir_Acquire.f 13).bind fun t161 => (if t161 = true then ((ir_Release.f 14).bind fun t162 => (some t162)) else (some false))) else (some false))) else (some false))) else (some false))) else (some false))) else (some false))) else (some false)) else (some false)) else (some false)) else (some false)))
theorem interlocklaw02_known.mono : ∀ k, LeO (interlocklaw02_known.f k ) (interlocklaw02_known.f (k + 1) ) := by
  intro  k
  unfold interlocklaw02_known.f
  repeat' first
      | (with_reducible exact ir_Sets.mono _ _ _ _ _)
      | (with_reducible exact ir_Uses.mono _ _ _ _ _)
      | (with_reducible exact LeO.refl _)
      | (with_reducible exact LeO.none _)
      | (with_reducible refine LeO.ite ?_ ?_)
      | (with_reducible refine LeO.bind ?_ (fun _ => ?_))
      | exact ir_Sets.mono _ _ _ _ _
      | exact ir_Uses.mono _ _ _ _ _
      | exact LeO.none _
      | refine LeO.ite ?_ ?_
      | refine LeO.bind ?_ (fun _ => ?_)
set_option maxHeartbeats 8000000 in
set_option maxRecDepth 100000 in
theorem interlocklaw02_known.calls (k : Nat)  (r : Bool) (w : World) (h : interlocklaw02_known.f k  = some r) :
    Calls Try.prog 11 #[] w fun e w' => e = .returned (.bool r) ∧ Below w.heap.size w w' := by
 have hu30 := Try.underlying30
 have hu26 := Try.underlying26
 have HB := Aside0.mk (Below.refl w.heap.size w)
 have H : ((ir_Name.f 8).bind fun bt149 => ((ir_Find.f (⟨#[112, 111, 108, 108]⟩ : ByteArray)).bind fun bt151 => (if bt149.1.toList = ([115, 116, 111, 114, 101] : List UInt8) then (if bt149.2 = 2 then (if bt151.2 = true then (if bt151.1 = 22 then ((ir_Uses.f k 3 0 1 2).bind fun t153 => (if t153 = 6 then ((ir_Sets.f k 3 0 1 2).bind fun t154 => (if t154 = 1 then ((ir_Sound.f 0 0 0 ([] : List Int) 0 0 ([] : List (List (S30)))).bind fun t155 => (if t155 = 3 then ((ir_Sound.f 0 0 0 ([] : List Int) 0 0 (([[]] : List (List (S30))))).bind fun t159 => (if t159 = 0 then ((ir_Plain.f 7).bind fun t160 => (if t160 = true then ((ir_Acquire.f 13).bind fun t161 => (if t161 = true then ((ir_Release.f 14).bind fun t162 => (some t162)) else (some false))) else (some false))) else (some false))) else (some false))) else (some false))) else (some false))) else (some false)) else (some false)) else (some false)) else (some false)))) = some r := h
 clear h
 replace H := Option.bind_eq_some_iff.mp H
 obtain ⟨⟨t149, t150⟩, A10, H⟩ := H
 replace H : ((ir_Find.f (⟨#[112, 111, 108, 108]⟩ : ByteArray)).bind fun bt151 => (if t149.toList = ([115, 116, 111, 114, 101] : List UInt8) then (if t150 = 2 then (if bt151.2 = true then (if bt151.1 = 22 then ((ir_Uses.f k 3 0 1 2).bind fun t153 => (if t153 = 6 then ((ir_Sets.f k 3 0 1 2).bind fun t154 => (if t154 = 1 then ((ir_Sound.f 0 0 0 ([] : List Int) 0 0 ([] : List (List (S30)))).bind fun t155 => (if t155 = 3 then ((ir_Sound.f 0 0 0 ([] : List Int) 0 0 (([[]] : List (List (S30))))).bind fun t159 => (if t159 = 0 then ((ir_Plain.f 7).bind fun t160 => (if t160 = true then ((ir_Acquire.f 13).bind fun t161 => (if t161 = true then ((ir_Release.f 14).bind fun t162 => (some t162)) else (some false))) else (some false))) else (some false))) else (some false))) else (some false))) else (some false))) else (some false)) else (some false)) else (some false)) else (some false))) = some r := H
 have A1 := Aside0.mk A10
 clear A10
 replace H := Option.bind_eq_some_iff.mp H
 obtain ⟨⟨t151, t152⟩, A20, H⟩ := H
 replace H : (if t149.toList = ([115, 116, 111, 114, 101] : List UInt8) then (if t150 = 2 then (if t152 = true then (if t151 = 22 then ((ir_Uses.f k 3 0 1 2).bind fun t153 => (if t153 = 6 then ((ir_Sets.f k 3 0 1 2).bind fun t154 => (if t154 = 1 then ((ir_Sound.f 0 0 0 ([] : List Int) 0 0 ([] : List (List (S30)))).bind fun t155 => (if t155 = 3 then ((ir_Sound.f 0 0 0 ([] : List Int) 0 0 (([[]] : List (List (S30))))).bind fun t159 => (if t159 = 0 then ((ir_Plain.f 7).bind fun t160 => (if t160 = true then ((ir_Acquire.f 13).bind fun t161 => (if t161 = true then ((ir_Release.f 14).bind fun t162 => (some t162)) else (some false))) else (some false))) else (some false))) else (some false))) else (some false))) else (some false))) else (some false)) else (some false)) else (some false)) else (some false)) = some r := H
 have A2 := Aside0.mk A20
 clear A20
 by_cases c3 : t149.toList = ([115, 116, 111, 114, 101] : List UInt8)
 {
 rw [if_pos c3] at H
 have c3b0 : (t149.toList == ([115, 116, 111, 114, 101] : List UInt8)) = true := beq_iff_eq.mpr c3
 have c3b1 : (t149.toList != ([115, 116, 111, 114, 101] : List UInt8)) = false := bne_eq_false_iff_eq.mpr c3
 clear c3
 by_cases c4 : t150 = 2
 {
 rw [if_pos c4] at H
 have c4b0 : (t150 == 2) = true := beq_iff_eq.mpr c4
 have c4b1 : (t150 != 2) = false := bne_eq_false_iff_eq.mpr c4
 clear c4
 by_cases c5 : t152 = true
 {
 subst c5
 have H1 : (if t151 = 22 then ((ir_Uses.f k 3 0 1 2).bind fun t153 => (if t153 = 6 then ((ir_Sets.f k 3 0 1 2).bind fun t154 => (if t154 = 1 then ((ir_Sound.f 0 0 0 ([] : List Int) 0 0 ([] : List (List (S30)))).bind fun t155 => (if t155 = 3 then ((ir_Sound.f 0 0 0 ([] : List Int) 0 0 (([[]] : List (List (S30))))).bind fun t159 => (if t159 = 0 then ((ir_Plain.f 7).bind fun t160 => (if t160 = true then ((ir_Acquire.f 13).bind fun t161 => (if t161 = true then ((ir_Release.f 14).bind fun t162 => (some t162)) else (some false))) else (some false))) else (some false))) else (some false))) else (some false))) else (some false))) else (some false)) = some r := by rw [if_pos rfl] at H; exact H
 clear H
 have H := H1
 clear H1
 by_cases c6 : t151 = 22
 {
 rw [if_pos c6] at H
 have c6b0 : (t151 == 22) = true := beq_iff_eq.mpr c6
 have c6b1 : (t151 != 22) = false := bne_eq_false_iff_eq.mpr c6
 clear c6
 replace H := Option.bind_eq_some_iff.mp H
 obtain ⟨t153, A70, H⟩ := H
 replace H : (if t153 = 6 then ((ir_Sets.f k 3 0 1 2).bind fun t154 => (if t154 = 1 then ((ir_Sound.f 0 0 0 ([] : List Int) 0 0 ([] : List (List (S30)))).bind fun t155 => (if t155 = 3 then ((ir_Sound.f 0 0 0 ([] : List Int) 0 0 (([[]] : List (List (S30))))).bind fun t159 => (if t159 = 0 then ((ir_Plain.f 7).bind fun t160 => (if t160 = true then ((ir_Acquire.f 13).bind fun t161 => (if t161 = true then ((ir_Release.f 14).bind fun t162 => (some t162)) else (some false))) else (some false))) else (some false))) else (some false))) else (some false))) else (some false)) = some r := H
 have A7 := Aside0.mk A70
 clear A70
 by_cases c8 : t153 = 6
 {
 rw [if_pos c8] at H
 have c8b0 : (t153 == 6) = true := beq_iff_eq.mpr c8
 have c8b1 : (t153 != 6) = false := bne_eq_false_iff_eq.mpr c8
 clear c8
 replace H := Option.bind_eq_some_iff.mp H
 obtain ⟨t154, A90, H⟩ := H
 replace H : (if t154 = 1 then ((ir_Sound.f 0 0 0 ([] : List Int) 0 0 ([] : List (List (S30)))).bind fun t155 => (if t155 = 3 then ((ir_Sound.f 0 0 0 ([] : List Int) 0 0 (([[]] : List (List (S30))))).bind fun t159 => (if t159 = 0 then ((ir_Plain.f 7).bind fun t160 => (if t160 = true then ((ir_Acquire.f 13).bind fun t161 => (if t161 = true then ((ir_Release.f 14).bind fun t162 => (some t162)) else (some false))) else (some false))) else (some false))) else (some false))) else (some false)) = some r := H
 have A9 := Aside0.mk A90
 clear A90
 by_cases c10 : t154 = 1
 {
 rw [if_pos c10] at H
 have c10b0 : (t154 == 1) = true := beq_iff_eq.mpr c10
 have c10b1 : (t154 != 1) = false := bne_eq_false_iff_eq.mpr c10
 clear c10
 replace H := Option.bind_eq_some_iff.mp H
 obtain ⟨t155, A110, H⟩ := H
 replace H : (if t155 = 3 then ((ir_Sound.f 0 0 0 ([] : List Int) 0 0 (([[]] : List (List (S30))))).bind fun t159 => (if t159 = 0 then ((ir_Plain.f 7).bind fun t160 => (if t160 = true then ((ir_Acquire.f 13).bind fun t161 => (if t161 = true then ((ir_Release.f 14).bind fun t162 => (some t162)) else (some false))) else (some false))) else (some false))) else (some false)) = some r := H
 have A11 := Aside0.mk A110
 clear A110
 by_cases c12 : t155 = 3
 {
 rw [if_pos c12] at H
 have c12b0 : (t155 == 3) = true := beq_iff_eq.mpr c12
 have c12b1 : (t155 != 3) = false := bne_eq_false_iff_eq.mpr c12
 clear c12
 obtain ⟨y156, hy156⟩ : ∃ y_ : List (List (S30)), y_ = (([[]] : List (List (S30)))) := ⟨_, rfl⟩
 replace H : ((ir_Sound.f 0 0 0 ([] : List Int) 0 0 y156).bind fun t159 => (if t159 = 0 then ((ir_Plain.f 7).bind fun t160 => (if t160 = true then ((ir_Acquire.f 13).bind fun t161 => (if t161 = true then ((ir_Release.f 14).bind fun t162 => (some t162)) else (some false))) else (some false))) else (some false))) = some r := by first | (rw [hy156]; with_reducible exact H) | (have H2_ := (Option.bind_some _ _).symm.trans H; rw [hy156]; with_reducible exact H2_) | (have H2_ := (Option.bind_some _ _).symm.trans H; with_reducible exact H2_) | with_reducible exact H | (rw [hy156]; exact H) | exact H
 have Ny156 := Aside0.mk hy156
 clear hy156
 replace H := Option.bind_eq_some_iff.mp H
 obtain ⟨t159, A130, H⟩ := H
 replace H : (if t159 = 0 then ((ir_Plain.f 7).bind fun t160 => (if t160 = true then ((ir_Acquire.f 13).bind fun t161 => (if t161 = true then ((ir_Release.f 14).bind fun t162 => (some t162)) else (some false))) else (some false))) else (some false)) = some r := H
 have A13 := Aside0.mk A130
 clear A130
 by_cases c14 : t159 = 0
 {
 rw [if_pos c14] at H
 have c14b0 : (t159 == 0) = true := beq_iff_eq.mpr c14
 have c14b1 : (t159 != 0) = false := bne_eq_false_iff_eq.mpr c14
 clear c14
 replace H := Option.bind_eq_some_iff.mp H
 obtain ⟨t160, A150, H⟩ := H
 replace H : (if t160 = true then ((ir_Acquire.f 13).bind fun t161 => (if t161 = true then ((ir_Release.f 14).bind fun t162 => (some t162)) else (some false))) else (some false)) = some r := H
 have A15 := Aside0.mk A150
 clear A150
 by_cases c16 : t160 = true
 {
 subst c16
 have H1 : ((ir_Acquire.f 13).bind fun t161 => (if t161 = true then ((ir_Release.f 14).bind fun t162 => (some t162)) else (some false))) = some r := by rw [if_pos rfl] at H; exact H
 clear H
 have H := H1
 clear H1
 replace H := Option.bind_eq_some_iff.mp H
 obtain ⟨t161, A170, H⟩ := H
 replace H : (if t161 = true then ((ir_Release.f 14).bind fun t162 => (some t162)) else (some false)) = some r := H
 have A17 := Aside0.mk A170
 clear A170
 by_cases c18 : t161 = true
 {
 subst c18
 have H1 : ((ir_Release.f 14).bind fun t162 => (some t162)) = some r := by rw [if_pos rfl] at H; exact H
 clear H
 have H := H1
 clear H1
 replace H := Option.bind_eq_some_iff.mp H
 obtain ⟨t162, A190, H⟩ := H
 replace H : (some t162) = some r := H
 have A19 := Aside0.mk A190
 clear A190
 obtain rfl := Option.some.inj H
 go_enter Try.func11, Try.ntmps11
 go_wp2_with (first | ((with_reducible refine gate_callee (f := 21) rfl ?_); refine goesL_ (some 6) rfl rfl Try.func21 (by kernel_rfl) rfl #[.int .u8 8] rfl (by (try simp only [List.map_toArray, List.map_cons, List.map_nil]); first | done | rfl | (simp only [List.length_drop, List.length_take]; rfl)) ?_; (with_reducible refine (ir_Name.calls 8 t149 t150 _ A1.out).mono ?_); rintro e w20 ⟨rfl, hb⟩; refine ⟨_, rfl, ?_⟩; have n0_ := Aside0.mk (below_step (by repeat (first | (with_reducible first | exact HB.out | apply below_alloc | apply pw_below_drewN | apply below_drew1) | exact HB.out)) hb); clear HB; have HB := n0_; clear n0_; (try clear hb); (try clear hb2); (try clear hk); (try clear hi)) | ((with_reducible refine gate_callee (f := 27) rfl ?_); refine goesL_ (some 10) rfl rfl Try.func27 (by kernel_rfl) rfl #[.string (⟨#[112, 111, 108, 108]⟩ : ByteArray)] rfl (by (try simp only [List.map_toArray, List.map_cons, List.map_nil]); first | done | rfl | (simp only [List.length_drop, List.length_take]; rfl)) ?_; (with_reducible refine (ir_Find.calls (⟨#[112, 111, 108, 108]⟩ : ByteArray) t151 true _ A2.out).mono ?_); rintro e w21 ⟨rfl, hb⟩; refine ⟨_, rfl, ?_⟩; have n0_ := Aside0.mk (below_step (by repeat (first | (with_reducible first | exact HB.out | apply below_alloc | apply pw_below_drewN | apply below_drew1) | exact HB.out)) hb); clear HB; have HB := n0_; clear n0_; (try clear hb); (try clear hb2); (try clear hk); (try clear hi)) | (go_at_call 23; (with_reducible refine (ir_Uses.calls k 3 0 1 2 t153 _ A7.out).mono ?_); rintro e w22 ⟨rfl, hb⟩; have n0_ := Aside0.mk (below_step (by repeat (first | (with_reducible first | exact HB.out | apply below_alloc | apply pw_below_drewN | apply below_drew1) | exact HB.out)) hb); clear HB; have HB := n0_; clear n0_; (try clear hb); (try clear hb2); (try clear hk); (try clear hi)) | (go_at_call 25; (with_reducible refine (ir_Sets.calls k 3 0 1 2 t154 _ A9.out).mono ?_); rintro e w23 ⟨rfl, hb⟩; have n0_ := Aside0.mk (below_step (by repeat (first | (with_reducible first | exact HB.out | apply below_alloc | apply pw_below_drewN | apply below_drew1) | exact HB.out)) hb); clear HB; have HB := n0_; clear n0_; (try clear hb); (try clear hb2); (try clear hk); (try clear hi)) | (go_at_call 12; (refine (ir_Sound.calls 0 0 0 _ _ ([] : List Int) 0 0 _ _ ([] : List (List (S30))) t155 _ ?side1 ?side2 ?side3 ?side4 A11.out).mono ?_); (case side1 => exact Kd.C_nil _ _); (case side2 => exact Nat.le_refl _); (case side3 => exact Kd.C_nil _ _); (case side4 => exact Nat.le_refl _); rintro e w24 ⟨rfl, hb⟩; have n0_ := Aside0.mk (below_step (by repeat (first | (with_reducible first | exact HB.out | apply below_alloc | apply pw_below_drewN | apply below_drew1) | exact HB.out)) hb); clear HB; have HB := n0_; clear n0_; (try clear hb); (try clear hb2); (try clear hk); (try clear hi)) | ((with_reducible refine gate_dst (N := 42) rfl ?_); (try (refine gate_guard (by rfl) ?_; dsimp only)); refine Kd.S_lit (Kd.slice 30 k30) _ 28 ?hg (N := 42) ?hd (xs := ([[]] : List (List (S30)))) (inner := [.slice none 0 0]) (ok := fun _ => True) (okp := fun _ => True) ?hr ?hp (fun _ hk => hk) trivial (Below.refl _ _) (Nat.le_refl _) (by simp) ?_; (case hd => rfl); (case hg => rfl); (case hr => first | (go_simp; done) | (go_simp; rfl)); (case hp => exact (Reps.one (show Kd.M (Kd.slice 30 k30) _ _ _ [] [.slice none 0 0] from ⟨_, rfl, Kd.R_nil _ _ _ _ _⟩) (Reps.none _ _))); intro v157 w25 ho26 hb hg_ hnew_; clear hg_ hnew_; (first | rw [← Ny156.out] at ho26 | (simp only [Int.reduceToNat] at ho26; rw [← Ny156.out] at ho26)); have n0_ := Aside0.mk (Kd.S_lower ho26 (below_size (by repeat (first | (with_reducible first | exact HB.out | apply below_alloc | apply pw_below_drewN | apply below_drew1) | exact HB.out)))); have n1_ := Aside0.mk (below_step (by repeat (first | (with_reducible first | exact HB.out | apply below_alloc | apply pw_below_drewN | apply below_drew1) | exact HB.out)) hb); clear HB; have HO158 := n0_; have HB := n1_; clear n0_ n1_; clear hb ho26; obtain ⟨Ao27, co27, eo27⟩ := Kd.S_slice HO158.out; subst eo27) | (go_at_call 12; (refine (ir_Sound.calls 0 0 0 _ _ ([] : List Int) 0 0 _ _ y156 t159 _ ?side1 ?side2 ?side3 ?side4 A13.out).mono ?_); (case side1 => exact Kd.C_nil _ _); (case side2 => exact Nat.le_refl _); (case side3 => repeat (first | exact (Kd.S_reads' HO158.out).2.2 | (with_reducible refine Kd.C_alloc ?_ _) | (with_reducible refine Kd.C_drewN ?_ _) | (with_reducible refine Kd.C_drew ?_))); (case side4 => exact (Kd.S_reads' HO158.out).2.1); rintro e w28 ⟨rfl, hb⟩; have n0_ := Aside0.mk (Kd.S_below (by (with_reducible repeat (first | apply Kd.S_alloc | apply Kd.S_drewN | apply Kd.S_drew)); exact HO158.out) hb); have n1_ := Aside0.mk (below_step (by repeat (first | (with_reducible first | exact HB.out | apply below_alloc | apply pw_below_drewN | apply below_drew1) | exact HB.out)) hb); clear HO158; clear HB; have HO158 := n0_; have HB := n1_; clear n0_ n1_; (try clear hb); (try clear hb2); (try clear hk); (try clear hi)) | (go_at_call 15; (with_reducible refine (ir_Plain.calls 7 true _ A15.out).mono ?_); rintro e w29 ⟨rfl, hb⟩; have n0_ := Aside0.mk (Kd.S_below (by (with_reducible repeat (first | apply Kd.S_alloc | apply Kd.S_drewN | apply Kd.S_drew)); exact HO158.out) hb); have n1_ := Aside0.mk (below_step (by repeat (first | (with_reducible first | exact HB.out | apply below_alloc | apply pw_below_drewN | apply below_drew1) | exact HB.out)) hb); clear HO158; clear HB; have HO158 := n0_; have HB := n1_; clear n0_ n1_; (try clear hb); (try clear hb2); (try clear hk); (try clear hi)) | (go_at_call 17; (with_reducible refine (ir_Acquire.calls 13 true _ A17.out).mono ?_); rintro e w30 ⟨rfl, hb⟩; have n0_ := Aside0.mk (Kd.S_below (by (with_reducible repeat (first | apply Kd.S_alloc | apply Kd.S_drewN | apply Kd.S_drew)); exact HO158.out) hb); have n1_ := Aside0.mk (below_step (by repeat (first | (with_reducible first | exact HB.out | apply below_alloc | apply pw_below_drewN | apply below_drew1) | exact HB.out)) hb); clear HO158; clear HB; have HO158 := n0_; have HB := n1_; clear n0_ n1_; (try clear hb); (try clear hb2); (try clear hk); (try clear hi)) | (go_at_call 19; (with_reducible refine (ir_Release.calls 14 t162 _ A19.out).mono ?_); rintro e w31 ⟨rfl, hb⟩; have n0_ := Aside0.mk (Kd.S_below (by (with_reducible repeat (first | apply Kd.S_alloc | apply Kd.S_drewN | apply Kd.S_drew)); exact HO158.out) hb); have n1_ := Aside0.mk (below_step (by repeat (first | (with_reducible first | exact HB.out | apply below_alloc | apply pw_below_drewN | apply below_drew1) | exact HB.out)) hb); clear HO158; clear HB; have HO158 := n0_; have HB := n1_; clear n0_ n1_; (try clear hb); (try clear hb2); (try clear hk); (try clear hi)))
 go_ret
 exact ⟨by first | rfl | (simp [errW_none, errW_some] <;> rfl) | (simp [*, errW_none, errW_some] <;> rfl), by repeat (first | (with_reducible first | exact HB.out | apply below_alloc | apply pw_below_drewN | apply below_drew1) | exact HB.out)⟩
 }
 {
 replace c18 := Bool.eq_false_iff.mpr c18
 subst c18
 have H1 : (some false) = some r := by rw [if_neg (show ¬ (false = true) by decide)] at H; exact H
 clear H
 have H := H1
 clear H1
 obtain rfl := Option.some.inj H
 go_enter Try.func11, Try.ntmps11
 go_wp2_with (first | ((with_reducible refine gate_callee (f := 21) rfl ?_); refine goesL_ (some 6) rfl rfl Try.func21 (by kernel_rfl) rfl #[.int .u8 8] rfl (by (try simp only [List.map_toArray, List.map_cons, List.map_nil]); first | done | rfl | (simp only [List.length_drop, List.length_take]; rfl)) ?_; (with_reducible refine (ir_Name.calls 8 t149 t150 _ A1.out).mono ?_); rintro e w32 ⟨rfl, hb⟩; refine ⟨_, rfl, ?_⟩; have n0_ := Aside0.mk (below_step (by repeat (first | (with_reducible first | exact HB.out | apply below_alloc | apply pw_below_drewN | apply below_drew1) | exact HB.out)) hb); clear HB; have HB := n0_; clear n0_; (try clear hb); (try clear hb2); (try clear hk); (try clear hi)) | ((with_reducible refine gate_callee (f := 27) rfl ?_); refine goesL_ (some 10) rfl rfl Try.func27 (by kernel_rfl) rfl #[.string (⟨#[112, 111, 108, 108]⟩ : ByteArray)] rfl (by (try simp only [List.map_toArray, List.map_cons, List.map_nil]); first | done | rfl | (simp only [List.length_drop, List.length_take]; rfl)) ?_; (with_reducible refine (ir_Find.calls (⟨#[112, 111, 108, 108]⟩ : ByteArray) t151 true _ A2.out).mono ?_); rintro e w33 ⟨rfl, hb⟩; refine ⟨_, rfl, ?_⟩; have n0_ := Aside0.mk (below_step (by repeat (first | (with_reducible first | exact HB.out | apply below_alloc | apply pw_below_drewN | apply below_drew1) | exact HB.out)) hb); clear HB; have HB := n0_; clear n0_; (try clear hb); (try clear hb2); (try clear hk); (try clear hi)) | (go_at_call 23; (with_reducible refine (ir_Uses.calls k 3 0 1 2 t153 _ A7.out).mono ?_); rintro e w34 ⟨rfl, hb⟩; have n0_ := Aside0.mk (below_step (by repeat (first | (with_reducible first | exact HB.out | apply below_alloc | apply pw_below_drewN | apply below_drew1) | exact HB.out)) hb); clear HB; have HB := n0_; clear n0_; (try clear hb); (try clear hb2); (try clear hk); (try clear hi)) | (go_at_call 25; (with_reducible refine (ir_Sets.calls k 3 0 1 2 t154 _ A9.out).mono ?_); rintro e w35 ⟨rfl, hb⟩; have n0_ := Aside0.mk (below_step (by repeat (first | (with_reducible first | exact HB.out | apply below_alloc | apply pw_below_drewN | apply below_drew1) | exact HB.out)) hb); clear HB; have HB := n0_; clear n0_; (try clear hb); (try clear hb2); (try clear hk); (try clear hi)) | (go_at_call 12; (refine (ir_Sound.calls 0 0 0 _ _ ([] : List Int) 0 0 _ _ ([] : List (List (S30))) t155 _ ?side1 ?side2 ?side3 ?side4 A11.out).mono ?_); (case side1 => exact Kd.C_nil _ _); (case side2 => exact Nat.le_refl _); (case side3 => exact Kd.C_nil _ _); (case side4 => exact Nat.le_refl _); rintro e w36 ⟨rfl, hb⟩; have n0_ := Aside0.mk (below_step (by repeat (first | (with_reducible first | exact HB.out | apply below_alloc | apply pw_below_drewN | apply below_drew1) | exact HB.out)) hb); clear HB; have HB := n0_; clear n0_; (try clear hb); (try clear hb2); (try clear hk); (try clear hi)) | ((with_reducible refine gate_dst (N := 42) rfl ?_); (try (refine gate_guard (by rfl) ?_; dsimp only)); refine Kd.S_lit (Kd.slice 30 k30) _ 28 ?hg (N := 42) ?hd (xs := ([[]] : List (List (S30)))) (inner := [.slice none 0 0]) (ok := fun _ => True) (okp := fun _ => True) ?hr ?hp (fun _ hk => hk) trivial (Below.refl _ _) (Nat.le_refl _) (by simp) ?_; (case hd => rfl); (case hg => rfl); (case hr => first | (go_simp; done) | (go_simp; rfl)); (case hp => exact (Reps.one (show Kd.M (Kd.slice 30 k30) _ _ _ [] [.slice none 0 0] from ⟨_, rfl, Kd.R_nil _ _ _ _ _⟩) (Reps.none _ _))); intro v157 w37 ho38 hb hg_ hnew_; clear hg_ hnew_; (first | rw [← Ny156.out] at ho38 | (simp only [Int.reduceToNat] at ho38; rw [← Ny156.out] at ho38)); have n0_ := Aside0.mk (Kd.S_lower ho38 (below_size (by repeat (first | (with_reducible first | exact HB.out | apply below_alloc | apply pw_below_drewN | apply below_drew1) | exact HB.out)))); have n1_ := Aside0.mk (below_step (by repeat (first | (with_reducible first | exact HB.out | apply below_alloc | apply pw_below_drewN | apply below_drew1) | exact HB.out)) hb); clear HB; have HO158 := n0_; have HB := n1_; clear n0_ n1_; clear hb ho38; obtain ⟨Ao39, co39, eo39⟩ := Kd.S_slice HO158.out; subst eo39) | (go_at_call 12; (refine (ir_Sound.calls 0 0 0 _ _ ([] : List Int) 0 0 _ _ y156 t159 _ ?side1 ?side2 ?side3 ?side4 A13.out).mono ?_); (case side1 => exact Kd.C_nil _ _); (case side2 => exact Nat.le_refl _); (case side3 => repeat (first | exact (Kd.S_reads' HO158.out).2.2 | (with_reducible refine Kd.C_alloc ?_ _) | (with_reducible refine Kd.C_drewN ?_ _) | (with_reducible refine Kd.C_drew ?_))); (case side4 => exact (Kd.S_reads' HO158.out).2.1); rintro e w40 ⟨rfl, hb⟩; have n0_ := Aside0.mk (Kd.S_below (by (with_reducible repeat (first | apply Kd.S_alloc | apply Kd.S_drewN | apply Kd.S_drew)); exact HO158.out) hb); have n1_ := Aside0.mk (below_step (by repeat (first | (with_reducible first | exact HB.out | apply below_alloc | apply pw_below_drewN | apply below_drew1) | exact HB.out)) hb); clear HO158; clear HB; have HO158 := n0_; have HB := n1_; clear n0_ n1_; (try clear hb); (try clear hb2); (try clear hk); (try clear hi)) | (go_at_call 15; (with_reducible refine (ir_Plain.calls 7 true _ A15.out).mono ?_); rintro e w41 ⟨rfl, hb⟩; have n0_ := Aside0.mk (Kd.S_below (by (with_reducible repeat (first | apply Kd.S_alloc | apply Kd.S_drewN | apply Kd.S_drew)); exact HO158.out) hb); have n1_ := Aside0.mk (below_step (by repeat (first | (with_reducible first | exact HB.out | apply below_alloc | apply pw_below_drewN | apply below_drew1) | exact HB.out)) hb); clear HO158; clear HB; have HO158 := n0_; have HB := n1_; clear n0_ n1_; (try clear hb); (try clear hb2); (try clear hk); (try clear hi)) | (go_at_call 17; (with_reducible refine (ir_Acquire.calls 13 false _ A17.out).mono ?_); rintro e w42 ⟨rfl, hb⟩; have n0_ := Aside0.mk (Kd.S_below (by (with_reducible repeat (first | apply Kd.S_alloc | apply Kd.S_drewN | apply Kd.S_drew)); exact HO158.out) hb); have n1_ := Aside0.mk (below_step (by repeat (first | (with_reducible first | exact HB.out | apply below_alloc | apply pw_below_drewN | apply below_drew1) | exact HB.out)) hb); clear HO158; clear HB; have HO158 := n0_; have HB := n1_; clear n0_ n1_; (try clear hb); (try clear hb2); (try clear hk); (try clear hi)))
 go_ret
 exact ⟨by first | rfl | (simp [errW_none, errW_some] <;> rfl) | (simp [*, errW_none, errW_some] <;> rfl), by repeat (first | (with_reducible first | exact HB.out | apply below_alloc | apply pw_below_drewN | apply below_drew1) | exact HB.out)⟩
 }
 }
 {
 replace c16 := Bool.eq_false_iff.mpr c16
 subst c16
 have H1 : (some false) = some r := by rw [if_neg (show ¬ (false = true) by decide)] at H; exact H
 clear H
 have H := H1
 clear H1
 obtain rfl := Option.some.inj H
 go_enter Try.func11, Try.ntmps11
 go_wp2_with (first | ((with_reducible refine gate_callee (f := 21) rfl ?_); refine goesL_ (some 6) rfl rfl Try.func21 (by kernel_rfl) rfl #[.int .u8 8] rfl (by (try simp only [List.map_toArray, List.map_cons, List.map_nil]); first | done | rfl | (simp only [List.length_drop, List.length_take]; rfl)) ?_; (with_reducible refine (ir_Name.calls 8 t149 t150 _ A1.out).mono ?_); rintro e w43 ⟨rfl, hb⟩; refine ⟨_, rfl, ?_⟩; have n0_ := Aside0.mk (below_step (by repeat (first | (with_reducible first | exact HB.out | apply below_alloc | apply pw_below_drewN | apply below_drew1) | exact HB.out)) hb); clear HB; have HB := n0_; clear n0_; (try clear hb); (try clear hb2); (try clear hk); (try clear hi)) | ((with_reducible refine gate_callee (f := 27) rfl ?_); refine goesL_ (some 10) rfl rfl Try.func27 (by kernel_rfl) rfl #[.string (⟨#[112, 111, 108, 108]⟩ : ByteArray)] rfl (by (try simp only [List.map_toArray, List.map_cons, List.map_nil]); first | done | rfl | (simp only [List.length_drop, List.length_take]; rfl)) ?_; (with_reducible refine (ir_Find.calls (⟨#[112, 111, 108, 108]⟩ : ByteArray) t151 true _ A2.out).mono ?_); rintro e w44 ⟨rfl, hb⟩; refine ⟨_, rfl, ?_⟩; have n0_ := Aside0.mk (below_step (by repeat (first | (with_reducible first | exact HB.out | apply below_alloc | apply pw_below_drewN | apply below_drew1) | exact HB.out)) hb); clear HB; have HB := n0_; clear n0_; (try clear hb); (try clear hb2); (try clear hk); (try clear hi)) | (go_at_call 23; (with_reducible refine (ir_Uses.calls k 3 0 1 2 t153 _ A7.out).mono ?_); rintro e w45 ⟨rfl, hb⟩; have n0_ := Aside0.mk (below_step (by repeat (first | (with_reducible first | exact HB.out | apply below_alloc | apply pw_below_drewN | apply below_drew1) | exact HB.out)) hb); clear HB; have HB := n0_; clear n0_; (try clear hb); (try clear hb2); (try clear hk); (try clear hi)) | (go_at_call 25; (with_reducible refine (ir_Sets.calls k 3 0 1 2 t154 _ A9.out).mono ?_); rintro e w46 ⟨rfl, hb⟩; have n0_ := Aside0.mk (below_step (by repeat (first | (with_reducible first | exact HB.out | apply below_alloc | apply pw_below_drewN | apply below_drew1) | exact HB.out)) hb); clear HB; have HB := n0_; clear n0_; (try clear hb); (try clear hb2); (try clear hk); (try clear hi)) | (go_at_call 12; (refine (ir_Sound.calls 0 0 0 _ _ ([] : List Int) 0 0 _ _ ([] : List (List (S30))) t155 _ ?side1 ?side2 ?side3 ?side4 A11.out).mono ?_); (case side1 => exact Kd.C_nil _ _); (case side2 => exact Nat.le_refl _); (case side3 => exact Kd.C_nil _ _); (case side4 => exact Nat.le_refl _); rintro e w47 ⟨rfl, hb⟩; have n0_ := Aside0.mk (below_step (by repeat (first | (with_reducible first | exact HB.out | apply below_alloc | apply pw_below_drewN | apply below_drew1) | exact HB.out)) hb); clear HB; have HB := n0_; clear n0_; (try clear hb); (try clear hb2); (try clear hk); (try clear hi)) | ((with_reducible refine gate_dst (N := 42) rfl ?_); (try (refine gate_guard (by rfl) ?_; dsimp only)); refine Kd.S_lit (Kd.slice 30 k30) _ 28 ?hg (N := 42) ?hd (xs := ([[]] : List (List (S30)))) (inner := [.slice none 0 0]) (ok := fun _ => True) (okp := fun _ => True) ?hr ?hp (fun _ hk => hk) trivial (Below.refl _ _) (Nat.le_refl _) (by simp) ?_; (case hd => rfl); (case hg => rfl); (case hr => first | (go_simp; done) | (go_simp; rfl)); (case hp => exact (Reps.one (show Kd.M (Kd.slice 30 k30) _ _ _ [] [.slice none 0 0] from ⟨_, rfl, Kd.R_nil _ _ _ _ _⟩) (Reps.none _ _))); intro v157 w48 ho49 hb hg_ hnew_; clear hg_ hnew_; (first | rw [← Ny156.out] at ho49 | (simp only [Int.reduceToNat] at ho49; rw [← Ny156.out] at ho49)); have n0_ := Aside0.mk (Kd.S_lower ho49 (below_size (by repeat (first | (with_reducible first | exact HB.out | apply below_alloc | apply pw_below_drewN | apply below_drew1) | exact HB.out)))); have n1_ := Aside0.mk (below_step (by repeat (first | (with_reducible first | exact HB.out | apply below_alloc | apply pw_below_drewN | apply below_drew1) | exact HB.out)) hb); clear HB; have HO158 := n0_; have HB := n1_; clear n0_ n1_; clear hb ho49; obtain ⟨Ao50, co50, eo50⟩ := Kd.S_slice HO158.out; subst eo50) | (go_at_call 12; (refine (ir_Sound.calls 0 0 0 _ _ ([] : List Int) 0 0 _ _ y156 t159 _ ?side1 ?side2 ?side3 ?side4 A13.out).mono ?_); (case side1 => exact Kd.C_nil _ _); (case side2 => exact Nat.le_refl _); (case side3 => repeat (first | exact (Kd.S_reads' HO158.out).2.2 | (with_reducible refine Kd.C_alloc ?_ _) | (with_reducible refine Kd.C_drewN ?_ _) | (with_reducible refine Kd.C_drew ?_))); (case side4 => exact (Kd.S_reads' HO158.out).2.1); rintro e w51 ⟨rfl, hb⟩; have n0_ := Aside0.mk (Kd.S_below (by (with_reducible repeat (first | apply Kd.S_alloc | apply Kd.S_drewN | apply Kd.S_drew)); exact HO158.out) hb); have n1_ := Aside0.mk (below_step (by repeat (first | (with_reducible first | exact HB.out | apply below_alloc | apply pw_below_drewN | apply below_drew1) | exact HB.out)) hb); clear HO158; clear HB; have HO158 := n0_; have HB := n1_; clear n0_ n1_; (try clear hb); (try clear hb2); (try clear hk); (try clear hi)) | (go_at_call 15; (with_reducible refine (ir_Plain.calls 7 false _ A15.out).mono ?_); rintro e w52 ⟨rfl, hb⟩; have n0_ := Aside0.mk (Kd.S_below (by (with_reducible repeat (first | apply Kd.S_alloc | apply Kd.S_drewN | apply Kd.S_drew)); exact HO158.out) hb); have n1_ := Aside0.mk (below_step (by repeat (first | (with_reducible first | exact HB.out | apply below_alloc | apply pw_below_drewN | apply below_drew1) | exact HB.out)) hb); clear HO158; clear HB; have HO158 := n0_; have HB := n1_; clear n0_ n1_; (try clear hb); (try clear hb2); (try clear hk); (try clear hi)))
 go_ret
 exact ⟨by first | rfl | (simp [errW_none, errW_some] <;> rfl) | (simp [*, errW_none, errW_some] <;> rfl), by repeat (first | (with_reducible first | exact HB.out | apply below_alloc | apply pw_below_drewN | apply below_drew1) | exact HB.out)⟩
 }
 }
 {
 rw [if_neg c14] at H
 have c14b0 : (t159 == 0) = false := beq_eq_false_iff_ne.mpr c14
 have c14b1 : (t159 != 0) = true := bne_iff_ne.mpr c14
 obtain rfl := Option.some.inj H
 go_enter Try.func11, Try.ntmps11
 go_wp2_with (first | ((with_reducible refine gate_callee (f := 21) rfl ?_); refine goesL_ (some 6) rfl rfl Try.func21 (by kernel_rfl) rfl #[.int .u8 8] rfl (by (try simp only [List.map_toArray, List.map_cons, List.map_nil]); first | done | rfl | (simp only [List.length_drop, List.length_take]; rfl)) ?_; (with_reducible refine (ir_Name.calls 8 t149 t150 _ A1.out).mono ?_); rintro e w53 ⟨rfl, hb⟩; refine ⟨_, rfl, ?_⟩; have n0_ := Aside0.mk (below_step (by repeat (first | (with_reducible first | exact HB.out | apply below_alloc | apply pw_below_drewN | apply below_drew1) | exact HB.out)) hb); clear HB; have HB := n0_; clear n0_; (try clear hb); (try clear hb2); (try clear hk); (try clear hi)) | ((with_reducible refine gate_callee (f := 27) rfl ?_); refine goesL_ (some 10) rfl rfl Try.func27 (by kernel_rfl) rfl #[.string (⟨#[112, 111, 108, 108]⟩ : ByteArray)] rfl (by (try simp only [List.map_toArray, List.map_cons, List.map_nil]); first | done | rfl | (simp only [List.length_drop, List.length_take]; rfl)) ?_; (with_reducible refine (ir_Find.calls (⟨#[112, 111, 108, 108]⟩ : ByteArray) t151 true _ A2.out).mono ?_); rintro e w54 ⟨rfl, hb⟩; refine ⟨_, rfl, ?_⟩; have n0_ := Aside0.mk (below_step (by repeat (first | (with_reducible first | exact HB.out | apply below_alloc | apply pw_below_drewN | apply below_drew1) | exact HB.out)) hb); clear HB; have HB := n0_; clear n0_; (try clear hb); (try clear hb2); (try clear hk); (try clear hi)) | (go_at_call 23; (with_reducible refine (ir_Uses.calls k 3 0 1 2 t153 _ A7.out).mono ?_); rintro e w55 ⟨rfl, hb⟩; have n0_ := Aside0.mk (below_step (by repeat (first | (with_reducible first | exact HB.out | apply below_alloc | apply pw_below_drewN | apply below_drew1) | exact HB.out)) hb); clear HB; have HB := n0_; clear n0_; (try clear hb); (try clear hb2); (try clear hk); (try clear hi)) | (go_at_call 25; (with_reducible refine (ir_Sets.calls k 3 0 1 2 t154 _ A9.out).mono ?_); rintro e w56 ⟨rfl, hb⟩; have n0_ := Aside0.mk (below_step (by repeat (first | (with_reducible first | exact HB.out | apply below_alloc | apply pw_below_drewN | apply below_drew1) | exact HB.out)) hb); clear HB; have HB := n0_; clear n0_; (try clear hb); (try clear hb2); (try clear hk); (try clear hi)) | (go_at_call 12; (refine (ir_Sound.calls 0 0 0 _ _ ([] : List Int) 0 0 _ _ ([] : List (List (S30))) t155 _ ?side1 ?side2 ?side3 ?side4 A11.out).mono ?_); (case side1 => exact Kd.C_nil _ _); (case side2 => exact Nat.le_refl _); (case side3 => exact Kd.C_nil _ _); (case side4 => exact Nat.le_refl _); rintro e w57 ⟨rfl, hb⟩; have n0_ := Aside0.mk (below_step (by repeat (first | (with_reducible first | exact HB.out | apply below_alloc | apply pw_below_drewN | apply below_drew1) | exact HB.out)) hb); clear HB; have HB := n0_; clear n0_; (try clear hb); (try clear hb2); (try clear hk); (try clear hi)) | ((with_reducible refine gate_dst (N := 42) rfl ?_); (try (refine gate_guard (by rfl) ?_; dsimp only)); refine Kd.S_lit (Kd.slice 30 k30) _ 28 ?hg (N := 42) ?hd (xs := ([[]] : List (List (S30)))) (inner := [.slice none 0 0]) (ok := fun _ => True) (okp := fun _ => True) ?hr ?hp (fun _ hk => hk) trivial (Below.refl _ _) (Nat.le_refl _) (by simp) ?_; (case hd => rfl); (case hg => rfl); (case hr => first | (go_simp; done) | (go_simp; rfl)); (case hp => exact (Reps.one (show Kd.M (Kd.slice 30 k30) _ _ _ [] [.slice none 0 0] from ⟨_, rfl, Kd.R_nil _ _ _ _ _⟩) (Reps.none _ _))); intro v157 w58 ho59 hb hg_ hnew_; clear hg_ hnew_; (first | rw [← Ny156.out] at ho59 | (simp only [Int.reduceToNat] at ho59; rw [← Ny156.out] at ho59)); have n0_ := Aside0.mk (Kd.S_lower ho59 (below_size (by repeat (first | (with_reducible first | exact HB.out | apply below_alloc | apply pw_below_drewN | apply below_drew1) | exact HB.out)))); have n1_ := Aside0.mk (below_step (by repeat (first | (with_reducible first | exact HB.out | apply below_alloc | apply pw_below_drewN | apply below_drew1) | exact HB.out)) hb); clear HB; have HO158 := n0_; have HB := n1_; clear n0_ n1_; clear hb ho59; obtain ⟨Ao60, co60, eo60⟩ := Kd.S_slice HO158.out; subst eo60) | (go_at_call 12; (refine (ir_Sound.calls 0 0 0 _ _ ([] : List Int) 0 0 _ _ y156 t159 _ ?side1 ?side2 ?side3 ?side4 A13.out).mono ?_); (case side1 => exact Kd.C_nil _ _); (case side2 => exact Nat.le_refl _); (case side3 => repeat (first | exact (Kd.S_reads' HO158.out).2.2 | (with_reducible refine Kd.C_alloc ?_ _) | (with_reducible refine Kd.C_drewN ?_ _) | (with_reducible refine Kd.C_drew ?_))); (case side4 => exact (Kd.S_reads' HO158.out).2.1); rintro e w61 ⟨rfl, hb⟩; have n0_ := Aside0.mk (Kd.S_below (by (with_reducible repeat (first | apply Kd.S_alloc | apply Kd.S_drewN | apply Kd.S_drew)); exact HO158.out) hb); have n1_ := Aside0.mk (below_step (by repeat (first | (with_reducible first | exact HB.out | apply below_alloc | apply pw_below_drewN | apply below_drew1) | exact HB.out)) hb); clear HO158; clear HB; have HO158 := n0_; have HB := n1_; clear n0_ n1_; (try clear hb); (try clear hb2); (try clear hk); (try clear hi)))
 go_ret
 exact ⟨by first | rfl | (simp [errW_none, errW_some] <;> rfl) | (simp [*, errW_none, errW_some] <;> rfl), by repeat (first | (with_reducible first | exact HB.out | apply below_alloc | apply pw_below_drewN | apply below_drew1) | exact HB.out)⟩
 }
 }
 {
 rw [if_neg c12] at H
 have c12b0 : (t155 == 3) = false := beq_eq_false_iff_ne.mpr c12
 have c12b1 : (t155 != 3) = true := bne_iff_ne.mpr c12
 obtain rfl := Option.some.inj H
 go_enter Try.func11, Try.ntmps11
 go_wp2_with (first | ((with_reducible refine gate_callee (f := 21) rfl ?_); refine goesL_ (some 6) rfl rfl Try.func21 (by kernel_rfl) rfl #[.int .u8 8] rfl (by (try simp only [List.map_toArray, List.map_cons, List.map_nil]); first | done | rfl | (simp only [List.length_drop, List.length_take]; rfl)) ?_; (with_reducible refine (ir_Name.calls 8 t149 t150 _ A1.out).mono ?_); rintro e w62 ⟨rfl, hb⟩; refine ⟨_, rfl, ?_⟩; have n0_ := Aside0.mk (below_step (by repeat (first | (with_reducible first | exact HB.out | apply below_alloc | apply pw_below_drewN | apply below_drew1) | exact HB.out)) hb); clear HB; have HB := n0_; clear n0_; (try clear hb); (try clear hb2); (try clear hk); (try clear hi)) | ((with_reducible refine gate_callee (f := 27) rfl ?_); refine goesL_ (some 10) rfl rfl Try.func27 (by kernel_rfl) rfl #[.string (⟨#[112, 111, 108, 108]⟩ : ByteArray)] rfl (by (try simp only [List.map_toArray, List.map_cons, List.map_nil]); first | done | rfl | (simp only [List.length_drop, List.length_take]; rfl)) ?_; (with_reducible refine (ir_Find.calls (⟨#[112, 111, 108, 108]⟩ : ByteArray) t151 true _ A2.out).mono ?_); rintro e w63 ⟨rfl, hb⟩; refine ⟨_, rfl, ?_⟩; have n0_ := Aside0.mk (below_step (by repeat (first | (with_reducible first | exact HB.out | apply below_alloc | apply pw_below_drewN | apply below_drew1) | exact HB.out)) hb); clear HB; have HB := n0_; clear n0_; (try clear hb); (try clear hb2); (try clear hk); (try clear hi)) | (go_at_call 23; (with_reducible refine (ir_Uses.calls k 3 0 1 2 t153 _ A7.out).mono ?_); rintro e w64 ⟨rfl, hb⟩; have n0_ := Aside0.mk (below_step (by repeat (first | (with_reducible first | exact HB.out | apply below_alloc | apply pw_below_drewN | apply below_drew1) | exact HB.out)) hb); clear HB; have HB := n0_; clear n0_; (try clear hb); (try clear hb2); (try clear hk); (try clear hi)) | (go_at_call 25; (with_reducible refine (ir_Sets.calls k 3 0 1 2 t154 _ A9.out).mono ?_); rintro e w65 ⟨rfl, hb⟩; have n0_ := Aside0.mk (below_step (by repeat (first | (with_reducible first | exact HB.out | apply below_alloc | apply pw_below_drewN | apply below_drew1) | exact HB.out)) hb); clear HB; have HB := n0_; clear n0_; (try clear hb); (try clear hb2); (try clear hk); (try clear hi)) | (go_at_call 12; (refine (ir_Sound.calls 0 0 0 _ _ ([] : List Int) 0 0 _ _ ([] : List (List (S30))) t155 _ ?side1 ?side2 ?side3 ?side4 A11.out).mono ?_); (case side1 => exact Kd.C_nil _ _); (case side2 => exact Nat.le_refl _); (case side3 => exact Kd.C_nil _ _); (case side4 => exact Nat.le_refl _); rintro e w66 ⟨rfl, hb⟩; have n0_ := Aside0.mk (below_step (by repeat (first | (with_reducible first | exact HB.out | apply below_alloc | apply pw_below_drewN | apply below_drew1) | exact HB.out)) hb); clear HB; have HB := n0_; clear n0_; (try clear hb); (try clear hb2); (try clear hk); (try clear hi)))
 go_ret
 exact ⟨by first | rfl | (simp [errW_none, errW_some] <;> rfl) | (simp [*, errW_none, errW_some] <;> rfl), by repeat (first | (with_reducible first | exact HB.out | apply below_alloc | apply pw_below_drewN | apply below_drew1) | exact HB.out)⟩
 }
 }
 {
 rw [if_neg c10] at H
 have c10b0 : (t154 == 1) = false := beq_eq_false_iff_ne.mpr c10
 have c10b1 : (t154 != 1) = true := bne_iff_ne.mpr c10
 obtain rfl := Option.some.inj H
 go_enter Try.func11, Try.ntmps11
 go_wp2_with (first | ((with_reducible refine gate_callee (f := 21) rfl ?_); refine goesL_ (some 6) rfl rfl Try.func21 (by kernel_rfl) rfl #[.int .u8 8] rfl (by (try simp only [List.map_toArray, List.map_cons, List.map_nil]); first | done | rfl | (simp only [List.length_drop, List.length_take]; rfl)) ?_; (with_reducible refine (ir_Name.calls 8 t149 t150 _ A1.out).mono ?_); rintro e w67 ⟨rfl, hb⟩; refine ⟨_, rfl, ?_⟩; have n0_ := Aside0.mk (below_step (by repeat (first | (with_reducible first | exact HB.out | apply below_alloc | apply pw_below_drewN | apply below_drew1) | exact HB.out)) hb); clear HB; have HB := n0_; clear n0_; (try clear hb); (try clear hb2); (try clear hk); (try clear hi)) | ((with_reducible refine gate_callee (f := 27) rfl ?_); refine goesL_ (some 10) rfl rfl Try.func27 (by kernel_rfl) rfl #[.string (⟨#[112, 111, 108, 108]⟩ : ByteArray)] rfl (by (try simp only [List.map_toArray, List.map_cons, List.map_nil]); first | done | rfl | (simp only [List.length_drop, List.length_take]; rfl)) ?_; (with_reducible refine (ir_Find.calls (⟨#[112, 111, 108, 108]⟩ : ByteArray) t151 true _ A2.out).mono ?_); rintro e w68 ⟨rfl, hb⟩; refine ⟨_, rfl, ?_⟩; have n0_ := Aside0.mk (below_step (by repeat (first | (with_reducible first | exact HB.out | apply below_alloc | apply pw_below_drewN | apply below_drew1) | exact HB.out)) hb); clear HB; have HB := n0_; clear n0_; (try clear hb); (try clear hb2); (try clear hk); (try clear hi)) | (go_at_call 23; (with_reducible refine (ir_Uses.calls k 3 0 1 2 t153 _ A7.out).mono ?_); rintro e w69 ⟨rfl, hb⟩; have n0_ := Aside0.mk (below_step (by repeat (first | (with_reducible first | exact HB.out | apply below_alloc | apply pw_below_drewN | apply below_drew1) | exact HB.out)) hb); clear HB; have HB := n0_; clear n0_; (try clear hb); (try clear hb2); (try clear hk); (try clear hi)) | (go_at_call 25; (with_reducible refine (ir_Sets.calls k 3 0 1 2 t154 _ A9.out).mono ?_); rintro e w70 ⟨rfl, hb⟩; have n0_ := Aside0.mk (below_step (by repeat (first | (with_reducible first | exact HB.out | apply below_alloc | apply pw_below_drewN | apply below_drew1) | exact HB.out)) hb); clear HB; have HB := n0_; clear n0_; (try clear hb); (try clear hb2); (try clear hk); (try clear hi)))
 go_ret
 exact ⟨by first | rfl | (simp [errW_none, errW_some] <;> rfl) | (simp [*, errW_none, errW_some] <;> rfl), by repeat (first | (with_reducible first | exact HB.out | apply below_alloc | apply pw_below_drewN | apply below_drew1) | exact HB.out)⟩
 }
 }
 {
 rw [if_neg c8] at H
 have c8b0 : (t153 == 6) = false := beq_eq_false_iff_ne.mpr c8
 have c8b1 : (t153 != 6) = true := bne_iff_ne.mpr c8
 obtain rfl := Option.some.inj H
 go_enter Try.func11, Try.ntmps11
 go_wp2_with (first | ((with_reducible refine gate_callee (f := 21) rfl ?_); refine goesL_ (some 6) rfl rfl Try.func21 (by kernel_rfl) rfl #[.int .u8 8] rfl (by (try simp only [List.map_toArray, List.map_cons, List.map_nil]); first | done | rfl | (simp only [List.length_drop, List.length_take]; rfl)) ?_; (with_reducible refine (ir_Name.calls 8 t149 t150 _ A1.out).mono ?_); rintro e w71 ⟨rfl, hb⟩; refine ⟨_, rfl, ?_⟩; have n0_ := Aside0.mk (below_step (by repeat (first | (with_reducible first | exact HB.out | apply below_alloc | apply pw_below_drewN | apply below_drew1) | exact HB.out)) hb); clear HB; have HB := n0_; clear n0_; (try clear hb); (try clear hb2); (try clear hk); (try clear hi)) | ((with_reducible refine gate_callee (f := 27) rfl ?_); refine goesL_ (some 10) rfl rfl Try.func27 (by kernel_rfl) rfl #[.string (⟨#[112, 111, 108, 108]⟩ : ByteArray)] rfl (by (try simp only [List.map_toArray, List.map_cons, List.map_nil]); first | done | rfl | (simp only [List.length_drop, List.length_take]; rfl)) ?_; (with_reducible refine (ir_Find.calls (⟨#[112, 111, 108, 108]⟩ : ByteArray) t151 true _ A2.out).mono ?_); rintro e w72 ⟨rfl, hb⟩; refine ⟨_, rfl, ?_⟩; have n0_ := Aside0.mk (below_step (by repeat (first | (with_reducible first | exact HB.out | apply below_alloc | apply pw_below_drewN | apply below_drew1) | exact HB.out)) hb); clear HB; have HB := n0_; clear n0_; (try clear hb); (try clear hb2); (try clear hk); (try clear hi)) | (go_at_call 23; (with_reducible refine (ir_Uses.calls k 3 0 1 2 t153 _ A7.out).mono ?_); rintro e w73 ⟨rfl, hb⟩; have n0_ := Aside0.mk (below_step (by repeat (first | (with_reducible first | exact HB.out | apply below_alloc | apply pw_below_drewN | apply below_drew1) | exact HB.out)) hb); clear HB; have HB := n0_; clear n0_; (try clear hb); (try clear hb2); (try clear hk); (try clear hi)))
 go_ret
 exact ⟨by first | rfl | (simp [errW_none, errW_some] <;> rfl) | (simp [*, errW_none, errW_some] <;> rfl), by repeat (first | (with_reducible first | exact HB.out | apply below_alloc | apply pw_below_drewN | apply below_drew1) | exact HB.out)⟩
 }
 }
 {
 rw [if_neg c6] at H
 have c6b0 : (t151 == 22) = false := beq_eq_false_iff_ne.mpr c6
 have c6b1 : (t151 != 22) = true := bne_iff_ne.mpr c6
 obtain rfl := Option.some.inj H
 go_enter Try.func11, Try.ntmps11
 go_wp2_with (first | ((with_reducible refine gate_callee (f := 21) rfl ?_); refine goesL_ (some 6) rfl rfl Try.func21 (by kernel_rfl) rfl #[.int .u8 8] rfl (by (try simp only [List.map_toArray, List.map_cons, List.map_nil]); first | done | rfl | (simp only [List.length_drop, List.length_take]; rfl)) ?_; (with_reducible refine (ir_Name.calls 8 t149 t150 _ A1.out).mono ?_); rintro e w74 ⟨rfl, hb⟩; refine ⟨_, rfl, ?_⟩; have n0_ := Aside0.mk (below_step (by repeat (first | (with_reducible first | exact HB.out | apply below_alloc | apply pw_below_drewN | apply below_drew1) | exact HB.out)) hb); clear HB; have HB := n0_; clear n0_; (try clear hb); (try clear hb2); (try clear hk); (try clear hi)) | ((with_reducible refine gate_callee (f := 27) rfl ?_); refine goesL_ (some 10) rfl rfl Try.func27 (by kernel_rfl) rfl #[.string (⟨#[112, 111, 108, 108]⟩ : ByteArray)] rfl (by (try simp only [List.map_toArray, List.map_cons, List.map_nil]); first | done | rfl | (simp only [List.length_drop, List.length_take]; rfl)) ?_; (with_reducible refine (ir_Find.calls (⟨#[112, 111, 108, 108]⟩ : ByteArray) t151 true _ A2.out).mono ?_); rintro e w75 ⟨rfl, hb⟩; refine ⟨_, rfl, ?_⟩; have n0_ := Aside0.mk (below_step (by repeat (first | (with_reducible first | exact HB.out | apply below_alloc | apply pw_below_drewN | apply below_drew1) | exact HB.out)) hb); clear HB; have HB := n0_; clear n0_; (try clear hb); (try clear hb2); (try clear hk); (try clear hi)))
 go_ret
 exact ⟨by first | rfl | (simp [errW_none, errW_some] <;> rfl) | (simp [*, errW_none, errW_some] <;> rfl), by repeat (first | (with_reducible first | exact HB.out | apply below_alloc | apply pw_below_drewN | apply below_drew1) | exact HB.out)⟩
 }
 }
 {
 replace c5 := Bool.eq_false_iff.mpr c5
 subst c5
 have H1 : (some false) = some r := by rw [if_neg (show ¬ (false = true) by decide)] at H; exact H
 clear H
 have H := H1
 clear H1
 obtain rfl := Option.some.inj H
 go_enter Try.func11, Try.ntmps11
 go_wp2_with (first | ((with_reducible refine gate_callee (f := 21) rfl ?_); refine goesL_ (some 6) rfl rfl Try.func21 (by kernel_rfl) rfl #[.int .u8 8] rfl (by (try simp only [List.map_toArray, List.map_cons, List.map_nil]); first | done | rfl | (simp only [List.length_drop, List.length_take]; rfl)) ?_; (with_reducible refine (ir_Name.calls 8 t149 t150 _ A1.out).mono ?_); rintro e w76 ⟨rfl, hb⟩; refine ⟨_, rfl, ?_⟩; have n0_ := Aside0.mk (below_step (by repeat (first | (with_reducible first | exact HB.out | apply below_alloc | apply pw_below_drewN | apply below_drew1) | exact HB.out)) hb); clear HB; have HB := n0_; clear n0_; (try clear hb); (try clear hb2); (try clear hk); (try clear hi)) | ((with_reducible refine gate_callee (f := 27) rfl ?_); refine goesL_ (some 10) rfl rfl Try.func27 (by kernel_rfl) rfl #[.string (⟨#[112, 111, 108, 108]⟩ : ByteArray)] rfl (by (try simp only [List.map_toArray, List.map_cons, List.map_nil]); first | done | rfl | (simp only [List.length_drop, List.length_take]; rfl)) ?_; (with_reducible refine (ir_Find.calls (⟨#[112, 111, 108, 108]⟩ : ByteArray) t151 false _ A2.out).mono ?_); rintro e w77 ⟨rfl, hb⟩; refine ⟨_, rfl, ?_⟩; have n0_ := Aside0.mk (below_step (by repeat (first | (with_reducible first | exact HB.out | apply below_alloc | apply pw_below_drewN | apply below_drew1) | exact HB.out)) hb); clear HB; have HB := n0_; clear n0_; (try clear hb); (try clear hb2); (try clear hk); (try clear hi)))
 go_ret
 exact ⟨by first | rfl | (simp [errW_none, errW_some] <;> rfl) | (simp [*, errW_none, errW_some] <;> rfl), by repeat (first | (with_reducible first | exact HB.out | apply below_alloc | apply pw_below_drewN | apply below_drew1) | exact HB.out)⟩
 }
 }
 {
 rw [if_neg c4] at H
 have c4b0 : (t150 == 2) = false := beq_eq_false_iff_ne.mpr c4
 have c4b1 : (t150 != 2) = true := bne_iff_ne.mpr c4
 obtain rfl := Option.some.inj H
 go_enter Try.func11, Try.ntmps11
 go_wp2_with (first | ((with_reducible refine gate_callee (f := 21) rfl ?_); refine goesL_ (some 6) rfl rfl Try.func21 (by kernel_rfl) rfl #[.int .u8 8] rfl (by (try simp only [List.map_toArray, List.map_cons, List.map_nil]); first | done | rfl | (simp only [List.length_drop, List.length_take]; rfl)) ?_; (with_reducible refine (ir_Name.calls 8 t149 t150 _ A1.out).mono ?_); rintro e w78 ⟨rfl, hb⟩; refine ⟨_, rfl, ?_⟩; have n0_ := Aside0.mk (below_step (by repeat (first | (with_reducible first | exact HB.out | apply below_alloc | apply pw_below_drewN | apply below_drew1) | exact HB.out)) hb); clear HB; have HB := n0_; clear n0_; (try clear hb); (try clear hb2); (try clear hk); (try clear hi)) | ((with_reducible refine gate_callee (f := 27) rfl ?_); refine goesL_ (some 10) rfl rfl Try.func27 (by kernel_rfl) rfl #[.string (⟨#[112, 111, 108, 108]⟩ : ByteArray)] rfl (by (try simp only [List.map_toArray, List.map_cons, List.map_nil]); first | done | rfl | (simp only [List.length_drop, List.length_take]; rfl)) ?_; (with_reducible refine (ir_Find.calls (⟨#[112, 111, 108, 108]⟩ : ByteArray) t151 t152 _ A2.out).mono ?_); rintro e w79 ⟨rfl, hb⟩; refine ⟨_, rfl, ?_⟩; have n0_ := Aside0.mk (below_step (by repeat (first | (with_reducible first | exact HB.out | apply below_alloc | apply pw_below_drewN | apply below_drew1) | exact HB.out)) hb); clear HB; have HB := n0_; clear n0_; (try clear hb); (try clear hb2); (try clear hk); (try clear hi)))
 go_ret
 exact ⟨by first | rfl | (simp [errW_none, errW_some] <;> rfl) | (simp [*, errW_none, errW_some] <;> rfl), by repeat (first | (with_reducible first | exact HB.out | apply below_alloc | apply pw_below_drewN | apply below_drew1) | exact HB.out)⟩
 }
 }
 {
 rw [if_neg c3] at H
 have c3b0 : (t149.toList == ([115, 116, 111, 114, 101] : List UInt8)) = false := beq_eq_false_iff_ne.mpr c3
 have c3b1 : (t149.toList != ([115, 116, 111, 114, 101] : List UInt8)) = true := bne_iff_ne.mpr c3
 obtain rfl := Option.some.inj H
 go_enter Try.func11, Try.ntmps11
 go_wp2_with (first | ((with_reducible refine gate_callee (f := 21) rfl ?_); refine goesL_ (some 6) rfl rfl Try.func21 (by kernel_rfl) rfl #[.int .u8 8] rfl (by (try simp only [List.map_toArray, List.map_cons, List.map_nil]); first | done | rfl | (simp only [List.length_drop, List.length_take]; rfl)) ?_; (with_reducible refine (ir_Name.calls 8 t149 t150 _ A1.out).mono ?_); rintro e w80 ⟨rfl, hb⟩; refine ⟨_, rfl, ?_⟩; have n0_ := Aside0.mk (below_step (by repeat (first | (with_reducible first | exact HB.out | apply below_alloc | apply pw_below_drewN | apply below_drew1) | exact HB.out)) hb); clear HB; have HB := n0_; clear n0_; (try clear hb); (try clear hb2); (try clear hk); (try clear hi)) | ((with_reducible refine gate_callee (f := 27) rfl ?_); refine goesL_ (some 10) rfl rfl Try.func27 (by kernel_rfl) rfl #[.string (⟨#[112, 111, 108, 108]⟩ : ByteArray)] rfl (by (try simp only [List.map_toArray, List.map_cons, List.map_nil]); first | done | rfl | (simp only [List.length_drop, List.length_take]; rfl)) ?_; (with_reducible refine (ir_Find.calls (⟨#[112, 111, 108, 108]⟩ : ByteArray) t151 t152 _ A2.out).mono ?_); rintro e w81 ⟨rfl, hb⟩; refine ⟨_, rfl, ?_⟩; have n0_ := Aside0.mk (below_step (by repeat (first | (with_reducible first | exact HB.out | apply below_alloc | apply pw_below_drewN | apply below_drew1) | exact HB.out)) hb); clear HB; have HB := n0_; clear n0_; (try clear hb); (try clear hb2); (try clear hk); (try clear hi)))
 go_ret
 exact ⟨by first | rfl | (simp [errW_none, errW_some] <;> rfl) | (simp [*, errW_none, errW_some] <;> rfl), by repeat (first | (with_reducible first | exact HB.out | apply below_alloc | apply pw_below_drewN | apply below_drew1) | exact HB.out)⟩
 }
end Go.Proofs.Ytkkhjfkgfmodnaa.P
