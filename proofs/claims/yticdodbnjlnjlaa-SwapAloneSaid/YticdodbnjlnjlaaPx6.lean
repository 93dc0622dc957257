-- written by this project's xprint.py (a turn of the kit's printer; its own texts among them)
import Derived.Test.YticdodbnjlnjlaaPx0
import Derived.Test.YticdodbnjlnjlaaV0
import Derived.Test.YticdodbnjlnjlaaPx4
import Derived.Test.YticdodbnjlnjlaaPx5
namespace Go.Proofs.Yticdodbnjlnjlaa.P
open Go.RowKit Go.Proofs.YticdodbnjlnjlaaW.PrintWords Go.Proofs.YticdodbnjlnjlaaW.PrintLast Go.Proofs.YticdodbnjlnjlaaW.PrintMore
attribute [local go_sem] max2_int min2_int max_two min_two max_three min_three max_four min_four   -- for this text's walks alone
attribute [local irreducible] Calls
set_option linter.unusedVariables false
set_option linter.unusedSimpArgs false

/-! ### swap_Code: function 9 -/
/-! What Code does: rows of instructions, and where they are from. -/
def rankN (op : Int) : Int := if op = 7 then 0 else if op = 8 then 2 else if op = 0 then 3 else 1
theorem rank_f (a b c d : Int) : swap_rank.f a b c d = some (rankN a) := by
  unfold swap_rank.f rankN
  split
  · rfl
  · split
    · rfl
    · split <;> rfl
def swapL {α : Type} (z : α) (l : List α) (i : Nat) : List α := (l.set (i - 1) (l.getD i z)).set i (l.getD (i - 1) z)
theorem swapL_length {α : Type} (z : α) (l : List α) (i : Nat) : (swapL z l i).length = l.length := by unfold swapL; rw [List.length_set, List.length_set]
def swap_Code.l0 : Nat → List Bool → List S33 → List Int → Nat → Option (List S33 × List Int)
  | 0, _, _, _, _ => none
  | k + 1, hs, now, fr, i => if i < now.length then
      (if hs.getD i false = true then swap_Code.l0 k hs now fr (i + 1)
       else if rankN (now.getD (i - 1) z33).f0 ≤ rankN (now.getD i z33).f0 then swap_Code.l0 k hs now fr (i + 1)
       else (swap_Apart.f k (now.getD (i - 1) z33).f0 (now.getD (i - 1) z33).f1 (now.getD (i - 1) z33).f2 (now.getD (i - 1) z33).f3 (now.getD i z33).f0 (now.getD i z33).f1 (now.getD i z33).f2 (now.getD i z33).f3).bind fun t =>
         if t = true then swap_Code.l0 k hs (swapL z33 now i) (swapL 0 fr i) (max (i - 1) 1) else swap_Code.l0 k hs now fr (i + 1))
    else some (now, fr)
def ownL (n : Nat) : List Int := (List.range n).map (fun i : Nat => (i : Int))
def swap_Code.f (k : Nat) (l : List S33) : Option (List S33 × List Int) := if 60 < l.length then some ([], []) else (seg_Heads.f l).bind fun h => if h.length = l.length then swap_Code.l0 k h l (ownL l.length) 1 else none
theorem swap_Code.mono_l : ∀ k, ∀ hs now fr i, LeO (swap_Code.l0 k hs now fr i) (swap_Code.l0 (k + 1) hs now fr i)
  | 0 => fun _ _ _ _ r h => by simp [swap_Code.l0] at h
  | k + 1 => by
    intro hs now fr i
    unfold swap_Code.l0
    exact LeO.ite (LeO.ite (swap_Code.mono_l k _ _ _ _) (LeO.ite (swap_Code.mono_l k _ _ _ _) (LeO.bind (swap_Apart.mono _ _ _ _ _ _ _ _ _) (fun _ => LeO.ite (swap_Code.mono_l k _ _ _ _) (swap_Code.mono_l k _ _ _ _))))) (LeO.refl _)
theorem swap_Code.mono : ∀ a0 k, LeO (swap_Code.f k a0) (swap_Code.f (k + 1) a0) := fun a0 k => LeO.ite (LeO.refl _) (LeO.bind (LeO.refl _) (fun h => LeO.ite (swap_Code.mono_l k _ _ _ _) (LeO.none _)))
theorem ownL_succ (n : Nat) : ownL (n + 1) = ownL n ++ [(n : Int)] := by unfold ownL; rw [List.range_succ, List.map_append]; rfl
theorem ownL_length (n : Nat) : (ownL n).length = n := by unfold ownL; rw [List.length_map, List.length_range]
theorem swapT15 : rtab .any (opsOf Try.f9 15) = rtab .any (opsOf Try.f9 15) := rfl
theorem swapT16 : rtab .any (opsOf Try.f9 16) = rtab .any (opsOf Try.f9 16) := rfl
theorem swapT13 : rtab .any (opsOf Try.f9 13) = rtab .any (opsOf Try.f9 13) := rfl
set_option maxHeartbeats 16000000 in
set_option maxRecDepth 100000 in
theorem swap_Code.calls (k : Nat) (A0 : Option Addr) (c0 : Nat) (l0 : List S33) (r1 : List S33) (r2 : List Int) (w : World) (hr0 : Kd.C k33 w A0 l0.length l0) (hc0 : l0.length ≤ c0) (h : swap_Code.f k l0 = some (r1, r2)) :
    Calls Try.prog 9 #[.slice A0 l0.length c0] w fun e w' => ∃ v0_ v1_ : Value, e = .returned (.agg #[v0_, v1_]) ∧ Kd.R k33 33 w' w.heap.size (fun _ => True) v0_ r1 ∧ Kd.R (Kd.int .i64) 3 w' w.heap.size (fun _ => True) v1_ r2 ∧ Below w.heap.size w w' := by
 have HR := Aside0.mk hr0
 have HB := Aside0.mk (Below.refl w.heap.size w)
 have hu30 := Try.underlying30
 have hu33 := Try.underlying33
 unfold swap_Code.f at h
 by_cases h60 : 60 < l0.length
 {
 rw [if_pos h60] at h
 have h := Option.some.inj h
 injection h with e1 e2
 subst e1; subst e2
 clear hr0
 have d1 : decide (60 < (l0.length : Int)) = true := decide_eq_true (by omega)
 go_enter Try.func9, Try.ntmps9
 go_wp2
 refine bodyPost_ret (results_cell_row rfl _ _ w.heap.size 30 #[.slice none 0 0, .slice none 0 0] (0, 0) _ rfl (blk_new w _) Try.underlying30 rfl (by kernel_rfl)) rfl ?_
 exact ⟨_, _, rfl, Kd.R_nil _ _ _ _ _, Kd.R_nil _ _ _ _ _, below_alloc HB.out _⟩
 }
 {
 rw [if_neg h60] at h
 obtain ⟨hd, hh, h⟩ := Option.bind_eq_some_iff.1 h
 by_cases hdl : hd.length = l0.length
 case neg => rw [if_neg hdl] at h; cases h
 rw [if_pos hdl] at h
 have H' := Aside0.mk h
 clear h
 have CL := Aside0.mk (fun W (hb : Below w.heap.size w W) => cloneI_any A0 c0 l0 W (Kd.C_below hr0 hb) hc0 (by omega))
 have HH := Aside0.mk (fun W (hb : Below w.heap.size w W) => seg_Heads.calls A0 c0 l0 hd W (Kd.C_below hr0 hb) hc0 hh)
 have hn : l0.length ≤ 60 := by omega
 have d1 : decide (60 < (l0.length : Int)) = false := decide_eq_false (by omega)
 clear hr0 hh h60
 go_enter Try.func9, Try.ntmps9
 go_wp2_with (first | (go_at_call 21; refine (HH.out _ (below_alloc HB.out _)).mono ?_; rintro e wH ⟨vH, rfl, hh0, hb⟩; obtain ⟨AH, cH, rfl⟩ := Kd.R_slice hh0; have RH := Aside0.mk (Kd.R_lower hh0 (below_size (below_alloc HB.out _))); have BX := Aside0.mk (blk_below (blk_new w _) hb); have HB1 := Aside0.mk (below_step (below_alloc HB.out _) hb); clear HH HB hh0 hb; have HB := HB1; clear HB1) | (go_at_call 22; refine (CL.out _ HB.out).mono ?_; rintro e wC ⟨vC, rfl, hh0, hb⟩; obtain ⟨AC, cC, rfl⟩ := Kd.R_slice hh0; have RC := Aside0.mk (Kd.R_lower hh0 (below_size HB.out)); have RH1 := Aside0.mk (Kd.R_below RH.out hb); have BX1 := Aside0.mk (blk_below BX.out hb); have HB1 := Aside0.mk (below_step HB.out hb); clear CL HB RH BX hh0 hb; have HB := HB1; have RH := RH1; have BX := BX1; clear HB1 RH1 BX1))
 have B4 := Aside0.mk (blk_new wC (.cells #[.slice AC l0.length cC, .slice none 0 0] 30))
 have RC1 := Aside0.mk (Kd.R_alloc RC.out (.cells #[.slice AC l0.length cC, .slice none 0 0] 30))
 have RH1 := Aside0.mk (Kd.R_alloc RH.out (.cells #[.slice AC l0.length cC, .slice none 0 0] 30))
 have BX1 := Aside0.mk (blk_alloc BX.out (.cells #[.slice AC l0.length cC, .slice none 0 0] 30))
 have NE := Aside0.mk (Nat.ne_of_lt (blk_lt BX.out))
 have GE := Aside0.mk (below_size HB.out)
 have HB1 := Aside0.mk (below_alloc HB.out (.cells #[.slice AC l0.length cC, .slice none 0 0] 30))
 clear RC RH BX HB
 generalize hW : wC.alloc _ = W1 at B4 RC1 RH1 BX1 HB1 ⊢
 clear hW
 generalize wC.heap.size = g4 at B4 NE GE ⊢
 clear HR
 go_loopw [20] (fun v20 wr => ∃ (j : Nat) (vF : Value), j ≤ l0.length ∧ v20 = .int .i64 (j : Int) ∧ Aside0 (Kd.R (Kd.int .i64) 3 wr w.heap.size (fun _ => True) vF (ownL j)) ∧ Aside0 (wr.heap[g4]? = some (.cells #[.slice AC l0.length cC, vF] 30 (0, 0))) ∧ Aside0 (Kd.R k33 33 wr w.heap.size (fun _ => True) (.slice AC l0.length cC) l0) ∧ Aside0 (Kd.R Kd.bool 4 wr w.heap.size (fun _ => True) (.slice AH hd.length cH) hd) ∧ Aside0 (wr.heap[w.heap.size]? = some (.cells #[.slice none 0 0, .slice none 0 0] 30 (0, 0))) ∧ Aside0 (Below w.heap.size w wr)) (fun v20 _ => l0.length - (intOf v20).toNat)
 case atStart => exact ⟨0, .slice none 0 0, Nat.zero_le _, rfl, ⟨Kd.R_nil _ _ _ _ _⟩, B4, RC1, RH1, BX1, HB1⟩
 case round => (
 clear B4 RC1 RH1 BX1 HB1
 obtain ⟨j, vF, hj, rfl, RF, B4, RC, RH, BX, HB⟩ := hrel
 by_cases hlt : j < l0.length
 {
 obtain ⟨AF, cF, rfl⟩ := Kd.R_slice RF.out
 rw [ownL_length] at B4 RF
 have hc0_ : wr.cell? ⟨g4, 0, none⟩ = some (.slice AC l0.length cC) := (blk_cell B4.out 0).trans rfl
 have hc1_ : wr.cell? ⟨g4, 1, none⟩ = some (.slice AF j cF) := (blk_cell B4.out 1).trans rfl
 have hf1_ := blk_frozen B4.out 1
 go_wp2_with (first | ((with_reducible refine gate_builtin (b := .append) (xs := #[.tmp 24, .tmp 26]) rfl ?_); at_builtin; refine Kd.R_append (Kd.int .i64) (w0 := w) w.heap.size rfl (.tmp 24) (.tmp 26) 23 3 (.int .i64 0) 8 rfl Try.underlying23 info3 rfl (by decide) (by omega) (.slice AF j cF) (ownL j) (j : Int) [.int .i64 (j : Int)] (fun _ => True) (fun _ => False) rfl rfl ?aP (fun _ hk => hk.elim) ?aF ?aO ?aB ?aS ?aL ?_; (case aP => exact rfl); (case aF => exact (fun _ _ => trivial)); (case aO => exact RF.out); (case aB => exact HB.out); (case aS => exact below_size HB.out); (case aL => rw [ownL_length]; omega); intro v1 w1 ho hb hg hat; rw [← ownL_succ] at ho; have n0_ := Aside0.mk ho; have n1_ := Aside0.mk (blk_grown B4.out hg (Kd.R_ne RF.out B4.out (by decide))); have n2_ := Aside0.mk (Kd.R_over' RC.out (Kd.R_typed RF.out) (by decide) hg); have n3_ := Aside0.mk (Kd.R_over' RH.out (Kd.R_typed RF.out) (by decide) hg); have n4_ := Aside0.mk (blk_grown BX.out hg (Kd.R_ne RF.out BX.out (by decide))); have n5_ := Aside0.mk hb; clear ho hb hg hat RF B4 RC RH BX HB hc0_ hc1_ hf1_; have RF := n0_; have B4 := n1_; have RC := n2_; have RH := n3_; have BX := n4_; have HB := n5_; clear n0_ n1_ n2_ n3_ n4_ n5_; obtain ⟨AG, cG, eG⟩ := Kd.R_slice RF.out; subst eG; have hc1_ : w1.cell? ⟨g4, 1, none⟩ = some (.slice AF j cF) := (blk_cell B4.out 1).trans rfl; have hf1_ := blk_frozen B4.out 1))
 have B4' := Aside0.mk (blk_put (cs := #[.slice AC l0.length cC, .slice AF j cF]) B4.out 1 (.slice AG (ownL (j + 1)).length cG) rfl)
 have RF' := Aside0.mk (Kd.R_mono (Kd.R_far (p := ⟨g4, 1, none⟩) (Kd.R_types RF.out B4.out (by decide)) (fun _ hk => hk.2) (.slice AG (ownL (j + 1)).length cG)) (fun _ hk => trivial) (ok' := fun _ => True))
 have RC' := Aside0.mk (Kd.R_mono (Kd.R_far (p := ⟨g4, 1, none⟩) (Kd.R_types RC.out B4.out (by decide)) (fun _ hk => hk.2) (.slice AG (ownL (j + 1)).length cG)) (fun _ hk => trivial) (ok' := fun _ => True))
 have RH' := Aside0.mk (Kd.R_mono (Kd.R_far (p := ⟨g4, 1, none⟩) (Kd.R_types RH.out B4.out (by decide)) (fun _ hk => hk.2) (.slice AG (ownL (j + 1)).length cG)) (fun _ hk => trivial) (ok' := fun _ => True))
 have BX' := Aside0.mk (blk_far (p := ⟨g4, 1, none⟩) BX.out NE.out (.slice AG (ownL (j + 1)).length cG))
 have HB' := Aside0.mk (below_set HB.out GE.out (v := .slice AG (ownL (j + 1)).length cG) (j := 1))
 clear B4 RF RC RH BX HB hc1_ hf1_
 go_roundw
 case rel => exact ⟨j + 1, .slice AG (ownL (j + 1)).length cG, by omega, by go_num, RF', B4', RC', RH', BX', HB'⟩
 case measure => simp [intOf]; omega
 }
 {
 obtain rfl : j = l0.length := by omega
 obtain ⟨AF, cF, rfl⟩ := Kd.R_slice RF.out
 rw [ownL_length] at B4 RF
 clear hlt hj
 go_wp2
 go_loopg [6] k (fun kq v6 w' => ∃ (i : Nat) (now : List S33) (fr : List Int), v6 = .int .i64 (i : Int) ∧ (1 ≤ i ∧ i ≤ 61 ∧ now.length = l0.length ∧ fr.length = l0.length) ∧ Aside0 (swap_Code.l0 kq hd now fr i = some (r1, r2)) ∧ Aside0 (kq ≤ k) ∧ Aside0 (Kd.R k33 33 w' w.heap.size (fun _ => True) (.slice AC l0.length cC) now) ∧ Aside0 (Kd.R (Kd.int .i64) 3 w' w.heap.size (fun _ => True) (.slice AF l0.length cF) fr) ∧ Aside0 (Kd.R Kd.bool 4 w' w.heap.size (fun _ => True) (.slice AH hd.length cH) hd) ∧ Aside0 (w'.heap[g4]? = some (.cells #[.slice AC l0.length cC, .slice AF l0.length cF] 30 (0, 0))) ∧ Aside0 (w'.heap[w.heap.size]? = some (.cells #[.slice none 0 0, .slice none 0 0] 30 (0, 0))) ∧ Aside0 (Below w.heap.size w w'))
 case atStart => exact ⟨1, l0, ownL l0.length, rfl, ⟨by omega, by omega, rfl, ownL_length _⟩, H', ⟨Nat.le_refl _⟩, RC, RF, RH, B4, BX, HB⟩
 case round => (
 clear H' RC RF RH B4 BX HB
 obtain ⟨i, now, fr, rfl, ⟨hi1, hi2, hn1, hn2⟩, HA, HK1, RC, RF, RH, B4, BX, HB⟩ := hrel
 cases gk with
 | zero => exact absurd HA.out (by simp [swap_Code.l0])
 | succ k1 => (
 have H := HA.out
 clear HA
 unfold swap_Code.l0 at H
 by_cases hlt : i < now.length
 {
 rw [if_pos hlt] at H
 obtain ⟨m, rfl⟩ : ∃ m, i = m + 1 := ⟨i - 1, by omega⟩
 rw [Nat.add_sub_cancel] at H
 obtain ⟨go, co, eo, gbC, _, _, _⟩ := Kd.R_form RC.out (by omega)
 injection eo with ea_ en_ ec_
 subst ea_; subst ec_; clear en_
 obtain ⟨gf, cf, eo, gbF, _, _, _⟩ := Kd.R_form RF.out (by omega)
 injection eo with ea_ en_ ec_
 subst ea_; subst ec_; clear en_
 obtain ⟨gh, ch, eo, gbH, _, _, _⟩ := Kd.R_form RH.out (by omega)
 injection eo with ea_ en_ ec_
 subst ea_; subst ec_; clear en_
 have hc0_ : wr.cell? ⟨g4, 0, none⟩ = some (.slice (some ⟨go, 0, none⟩) l0.length cC) := (blk_cell B4.out 0).trans rfl
 have hc1_ : wr.cell? ⟨g4, 1, none⟩ = some (.slice (some ⟨gf, 0, none⟩) l0.length cF) := (blk_cell B4.out 1).trans rfl
 obtain ⟨ca, _, hMa, hca, _⟩ := Kd.R_elem RC.out z33 (m : Int) (by omega) (by omega)
 obtain rfl := k33_openM hMa
 obtain ⟨cb, _, hMb, hcb, _⟩ := Kd.R_elem RC.out z33 ((m + 1 : Nat) : Int) (by omega) (by omega)
 obtain rfl := k33_openM hMb
 rw [Int.toNat_natCast] at hca hcb
 generalize ea : now.getD m z33 = a at H hca
 generalize eb : now.getD (m + 1) z33 = b at H hcb
 have EA := Aside0.mk ea
 have EB := Aside0.mk eb
 clear ea eb
 have ha0 : wr.cell? ⟨go, m * 4, none⟩ = some (.int .u8 a.f0) := hca 0 _ rfl
 have ha1 : wr.cell? ⟨go, m * 4 + 1, none⟩ = some (.int .i64 a.f1) := hca 1 _ rfl
 have ha2 : wr.cell? ⟨go, m * 4 + 2, none⟩ = some (.int .i64 a.f2) := hca 2 _ rfl
 have ha3 : wr.cell? ⟨go, m * 4 + 3, none⟩ = some (.int .i64 a.f3) := hca 3 _ rfl
 have hb0 : wr.cell? ⟨go, (m + 1) * 4, none⟩ = some (.int .u8 b.f0) := hcb 0 _ rfl
 have hb1 : wr.cell? ⟨go, (m + 1) * 4 + 1, none⟩ = some (.int .i64 b.f1) := hcb 1 _ rfl
 have hb2 : wr.cell? ⟨go, (m + 1) * 4 + 2, none⟩ = some (.int .i64 b.f2) := hcb 2 _ rfl
 have hb3 : wr.cell? ⟨go, (m + 1) * 4 + 3, none⟩ = some (.int .i64 b.f3) := hcb 3 _ rfl
 obtain ⟨hh0, _⟩ := Kd.R_celln false RH.out ((m + 1 : Nat) : Int) (by omega) (by omega)
 rw [Int.toNat_natCast, show rdOf false hd ((m + 1 : Nat) : Int) = hd.getD (m + 1) false by simp [rdOf]] at hh0
 generalize hd.getD (m + 1) false = hv at H hh0
 have dlt : decide (((m + 1 : Nat) : Int) < (l0.length : Int)) = true := decide_eq_true (by omega)
 have d0 := eq_true (show (0 : Int) ≤ (m : Int) + 1 by omega)
 have ew : wrap64 (((m + 1 : Nat) : Int) - 1) = (m : Int) := by unfold wrap64; omega
 have ew2 : IntKind.i64.wrap (((m + 1 : Nat) : Int) - 1) = (m : Int) := (i64_w _).trans ew
 cases hv with
 | true => (
 rw [if_pos rfl] at H
 go_wp2
 go_quiet (fail)
 try go_wp2
 have n0 := Aside0.mk (Kd.R_drew (Kd.R_drewN RC.out nq))
 have n1 := Aside0.mk (Kd.R_drew (Kd.R_drewN RF.out nq))
 have n2 := Aside0.mk (Kd.R_drew (Kd.R_drewN RH.out nq))
 have n3 := Aside0.mk (blk_drew (blk_drewN B4.out nq))
 have n4 := Aside0.mk (blk_drew (blk_drewN BX.out nq))
 have n5 := Aside0.mk (below_drew1 (pw_below_drewN HB.out nq))
 refine start_ (n := 25) (S := fun w' => w'.cell? ⟨gh, m + 1, none⟩ = some (.bool true) ∧ w'.cell? ⟨go, m * 4, none⟩ = some (.int .u8 a.f0) ∧ w'.cell? ⟨go, m * 4 + 1, none⟩ = some (.int .i64 a.f1) ∧ w'.cell? ⟨go, m * 4 + 2, none⟩ = some (.int .i64 a.f2) ∧ w'.cell? ⟨go, m * 4 + 3, none⟩ = some (.int .i64 a.f3) ∧ w'.cell? ⟨go, (m + 1) * 4, none⟩ = some (.int .u8 b.f0) ∧ w'.cell? ⟨go, (m + 1) * 4 + 1, none⟩ = some (.int .i64 b.f1) ∧ w'.cell? ⟨go, (m + 1) * 4 + 2, none⟩ = some (.int .i64 b.f2) ∧ w'.cell? ⟨go, (m + 1) * 4 + 3, none⟩ = some (.int .i64 b.f3)) (ds := []) (bm 25 0) (by kernel_rfl) rfl (by kernel_rfl) ⟨hh0, ha0, ha1, ha2, ha3, hb0, hb1, hb2, hb3⟩ (fun hHeld => ?_)
 refine with_tab swapT13 (fun HT_ => ?_)
 clear hc0_ hc1_ ha0 ha1 ha2 ha3 hb0 hb1 hb2 hb3 hh0
 generalize (wr.drewN nq).drew = w1 at n0 n1 n2 n3 n4 n5 hHeld ⊢
 clear RC RF RH B4 BX HB
 have RC := n0
 have RF := n1
 have RH := n2
 have B4 := n3
 have BX := n4
 have HB := n5
 clear n0 n1 n2 n3 n4 n5
 refine pu 0 43 HT_ ?_
 refine pu 1 44 HT_ ?_
 refine pu 2 45 HT_ ?_
 refine ta 3 46 HT_ hHeld (v := ?_) ?_ ?_; rotate_left
 {
 rintro w' ⟨s0, s1, s2, s3, s4, s5, s6, s7, s8⟩
 go_simp
 with_reducible rfl
 }
 refine pu 4 47 HT_ ?_
 refine pz 5 48 HT_ ?_
 refine pz 6 49 HT_ ?_
 refine tz 7 50 HT_ hHeld ?_
 refine pz 9 52 HT_ ?_
 refine pz 10 53 HT_ ?_
 refine tz 11 54 HT_ hHeld ?_
 refine on 8 (some 51) HT_ (fun K hK => ?_)
 refine off_ (by rfl) ?_
 refine hK.out _ _ hHeld (fun hHeld => ?_)
 clear hK K
 refine nm 51 ?_
 refine on 12 (some 55) HT_ (fun K hK => ?_)
 refine off_ (by rfl) ?_
 refine hK.out _ _ hHeld (fun hHeld => ?_)
 clear hK K
 refine nm 55 ?_
 refine pz 13 56 HT_ ?_
 refine pu 14 57 HT_ ?_
 refine pu 15 58 HT_ ?_
 refine pz 16 59 HT_ ?_
 refine pz 17 60 HT_ ?_
 refine tz 18 61 HT_ hHeld ?_
 refine pz 19 62 HT_ ?_
 refine pz 20 63 HT_ ?_
 refine tz 21 64 HT_ hHeld ?_
 refine on 22 (some 65) HT_ (fun K hK => ?_)
 refine off_ (by rfl) ?_
 refine hK.out _ _ hHeld (fun hHeld => ?_)
 clear hK K
 refine nm 65 ?_
 refine pz 23 66 HT_ ?_
 refine pu 24 67 HT_ ?_
 refine dn HT_ ?_
 try go_wp2
 go_roundg k1
 case measure => have := HK1.out; omega
 case rel => exact ⟨m + 1 + 1, now, fr, by go_num, ⟨by omega, by omega, hn1, hn2⟩, ⟨H⟩, ⟨by have := HK1.out; omega⟩, RC, RF, RH, B4, BX, HB⟩
 )
 | false => (
 rw [if_neg (by decide)] at H
 by_cases hrk : rankN a.f0 ≤ rankN b.f0
 {
 rw [if_pos hrk] at H
 have drk : decide (rankN a.f0 ≤ rankN b.f0) = true := decide_eq_true hrk
 go_wp2
 go_quiet (fail)
 try go_wp2
 have n0 := Aside0.mk (Kd.R_drew (Kd.R_drewN RC.out nq))
 have n1 := Aside0.mk (Kd.R_drew (Kd.R_drewN RF.out nq))
 have n2 := Aside0.mk (Kd.R_drew (Kd.R_drewN RH.out nq))
 have n3 := Aside0.mk (blk_drew (blk_drewN B4.out nq))
 have n4 := Aside0.mk (blk_drew (blk_drewN BX.out nq))
 have n5 := Aside0.mk (below_drew1 (pw_below_drewN HB.out nq))
 refine start_ (n := 25) (S := fun w' => w'.cell? ⟨gh, m + 1, none⟩ = some (.bool false) ∧ w'.cell? ⟨go, m * 4, none⟩ = some (.int .u8 a.f0) ∧ w'.cell? ⟨go, m * 4 + 1, none⟩ = some (.int .i64 a.f1) ∧ w'.cell? ⟨go, m * 4 + 2, none⟩ = some (.int .i64 a.f2) ∧ w'.cell? ⟨go, m * 4 + 3, none⟩ = some (.int .i64 a.f3) ∧ w'.cell? ⟨go, (m + 1) * 4, none⟩ = some (.int .u8 b.f0) ∧ w'.cell? ⟨go, (m + 1) * 4 + 1, none⟩ = some (.int .i64 b.f1) ∧ w'.cell? ⟨go, (m + 1) * 4 + 2, none⟩ = some (.int .i64 b.f2) ∧ w'.cell? ⟨go, (m + 1) * 4 + 3, none⟩ = some (.int .i64 b.f3)) (ds := []) (bm 25 0) (by kernel_rfl) rfl (by kernel_rfl) ⟨hh0, ha0, ha1, ha2, ha3, hb0, hb1, hb2, hb3⟩ (fun hHeld => ?_)
 refine with_tab swapT13 (fun HT_ => ?_)
 clear hc0_ hc1_ ha0 ha1 ha2 ha3 hb0 hb1 hb2 hb3 hh0
 generalize (wr.drewN nq).drew = w1 at n0 n1 n2 n3 n4 n5 hHeld ⊢
 clear RC RF RH B4 BX HB
 have RC := n0
 have RF := n1
 have RH := n2
 have B4 := n3
 have BX := n4
 have HB := n5
 clear n0 n1 n2 n3 n4 n5
 refine pu 0 43 HT_ ?_
 refine pu 1 44 HT_ ?_
 refine pu 2 45 HT_ ?_
 refine ta 3 46 HT_ hHeld (v := ?_) ?_ ?_; rotate_left
 {
 rintro w' ⟨s0, s1, s2, s3, s4, s5, s6, s7, s8⟩
 go_simp
 with_reducible rfl
 }
 refine pu 4 47 HT_ ?_
 refine pu 5 48 HT_ ?_
 refine pu 6 49 HT_ ?_
 refine ta 7 50 HT_ hHeld (v := ?_) ?_ ?_; rotate_left
 {
 rintro w' ⟨s0, s1, s2, s3, s4, s5, s6, s7, s8⟩
 go_simp
 with_reducible rfl
 }
 refine pu 9 52 HT_ ?_
 refine pu 10 53 HT_ ?_
 refine ta 11 54 HT_ hHeld (v := ?_) ?_ ?_; rotate_left
 {
 rintro w' ⟨s0, s1, s2, s3, s4, s5, s6, s7, s8⟩
 go_simp
 with_reducible rfl
 }
 refine on 8 (some 51) HT_ (fun K hK => ?_)
 refine goes_ Try.func23 (by kernel_rfl) rfl #[.agg #[.int .u8 b.f0, .int .i64 b.f1, .int .i64 b.f2, .int .i64 b.f3]] (by rfl) rfl rfl (by (try simp only [List.map_toArray, List.map_cons, List.map_nil]); first | done | rfl) ?_
 refine (swap_rank.calls b.f0 b.f1 b.f2 b.f3 (rankN b.f0) _ (rank_f _ _ _ _)).mono ?_
 rintro e w2 ⟨rfl, hb⟩
 refine ⟨_, rfl, ?_⟩
 have n0 := Aside0.mk (Kd.R_below RC.out hb)
 have n1 := Aside0.mk (Kd.R_below RF.out hb)
 have n2 := Aside0.mk (Kd.R_below RH.out hb)
 have n3 := Aside0.mk (blk_below B4.out hb)
 have n4 := Aside0.mk (blk_below BX.out hb)
 have n5 := Aside0.mk (below_step HB.out hb)
 clear RC RF RH B4 BX HB
 have RC := n0
 have RF := n1
 have RH := n2
 have B4 := n3
 have BX := n4
 have HB := n5
 clear n0 n1 n2 n3 n4 n5
 refine hK.out _ _ ⟨pw_cell_below hb hHeld.1, pw_cell_below hb hHeld.2.1, pw_cell_below hb hHeld.2.2.1, pw_cell_below hb hHeld.2.2.2.1, pw_cell_below hb hHeld.2.2.2.2.1, pw_cell_below hb hHeld.2.2.2.2.2.1, pw_cell_below hb hHeld.2.2.2.2.2.2.1, pw_cell_below hb hHeld.2.2.2.2.2.2.2.1, pw_cell_below hb hHeld.2.2.2.2.2.2.2.2⟩ (fun hHeld => ?_)
 clear hb
 clear hK K
 refine nm 51 ?_
 refine on 12 (some 55) HT_ (fun K hK => ?_)
 refine goes_ Try.func23 (by kernel_rfl) rfl #[.agg #[.int .u8 a.f0, .int .i64 a.f1, .int .i64 a.f2, .int .i64 a.f3]] (by rfl) rfl rfl (by (try simp only [List.map_toArray, List.map_cons, List.map_nil]); first | done | rfl) ?_
 refine (swap_rank.calls a.f0 a.f1 a.f2 a.f3 (rankN a.f0) _ (rank_f _ _ _ _)).mono ?_
 rintro e w2 ⟨rfl, hb⟩
 refine ⟨_, rfl, ?_⟩
 have n0 := Aside0.mk (Kd.R_below RC.out hb)
 have n1 := Aside0.mk (Kd.R_below RF.out hb)
 have n2 := Aside0.mk (Kd.R_below RH.out hb)
 have n3 := Aside0.mk (blk_below B4.out hb)
 have n4 := Aside0.mk (blk_below BX.out hb)
 have n5 := Aside0.mk (below_step HB.out hb)
 clear RC RF RH B4 BX HB
 have RC := n0
 have RF := n1
 have RH := n2
 have B4 := n3
 have BX := n4
 have HB := n5
 clear n0 n1 n2 n3 n4 n5
 refine hK.out _ _ ⟨pw_cell_below hb hHeld.1, pw_cell_below hb hHeld.2.1, pw_cell_below hb hHeld.2.2.1, pw_cell_below hb hHeld.2.2.2.1, pw_cell_below hb hHeld.2.2.2.2.1, pw_cell_below hb hHeld.2.2.2.2.2.1, pw_cell_below hb hHeld.2.2.2.2.2.2.1, pw_cell_below hb hHeld.2.2.2.2.2.2.2.1, pw_cell_below hb hHeld.2.2.2.2.2.2.2.2⟩ (fun hHeld => ?_)
 clear hb
 clear hK K
 refine nm 55 ?_
 refine pu 13 56 HT_ ?_
 refine pu 14 57 HT_ ?_
 refine pu 15 58 HT_ ?_
 refine pz 16 59 HT_ ?_
 refine pz 17 60 HT_ ?_
 refine tz 18 61 HT_ hHeld ?_
 refine pz 19 62 HT_ ?_
 refine pz 20 63 HT_ ?_
 refine tz 21 64 HT_ hHeld ?_
 refine on 22 (some 65) HT_ (fun K hK => ?_)
 refine off_ (by rfl) ?_
 refine hK.out _ _ hHeld (fun hHeld => ?_)
 clear hK K
 refine nm 65 ?_
 refine pz 23 66 HT_ ?_
 refine pu 24 67 HT_ ?_
 refine dn HT_ ?_
 try go_wp2
 go_roundg k1
 case measure => have := HK1.out; omega
 case rel => exact ⟨m + 1 + 1, now, fr, by go_num, ⟨by omega, by omega, hn1, hn2⟩, ⟨H⟩, ⟨by have := HK1.out; omega⟩, RC, RF, RH, B4, BX, HB⟩
 }
 {
 rw [if_neg hrk] at H
 have drk : decide (rankN a.f0 ≤ rankN b.f0) = false := decide_eq_false hrk
 obtain ⟨ta, hA, H2⟩ := Option.bind_eq_some_iff.1 H
 clear H
 have H := H2
 clear H2
 have HA_ := Aside0.mk hA
 clear hA
 cases ta with
 | false => (
 rw [if_neg (by decide)] at H
 go_wp2
 go_quiet (fail)
 try go_wp2
 have n0 := Aside0.mk (Kd.R_drew (Kd.R_drewN RC.out nq))
 have n1 := Aside0.mk (Kd.R_drew (Kd.R_drewN RF.out nq))
 have n2 := Aside0.mk (Kd.R_drew (Kd.R_drewN RH.out nq))
 have n3 := Aside0.mk (blk_drew (blk_drewN B4.out nq))
 have n4 := Aside0.mk (blk_drew (blk_drewN BX.out nq))
 have n5 := Aside0.mk (below_drew1 (pw_below_drewN HB.out nq))
 refine start_ (n := 25) (S := fun w' => w'.cell? ⟨gh, m + 1, none⟩ = some (.bool false) ∧ w'.cell? ⟨go, m * 4, none⟩ = some (.int .u8 a.f0) ∧ w'.cell? ⟨go, m * 4 + 1, none⟩ = some (.int .i64 a.f1) ∧ w'.cell? ⟨go, m * 4 + 2, none⟩ = some (.int .i64 a.f2) ∧ w'.cell? ⟨go, m * 4 + 3, none⟩ = some (.int .i64 a.f3) ∧ w'.cell? ⟨go, (m + 1) * 4, none⟩ = some (.int .u8 b.f0) ∧ w'.cell? ⟨go, (m + 1) * 4 + 1, none⟩ = some (.int .i64 b.f1) ∧ w'.cell? ⟨go, (m + 1) * 4 + 2, none⟩ = some (.int .i64 b.f2) ∧ w'.cell? ⟨go, (m + 1) * 4 + 3, none⟩ = some (.int .i64 b.f3)) (ds := []) (bm 25 0) (by kernel_rfl) rfl (by kernel_rfl) ⟨hh0, ha0, ha1, ha2, ha3, hb0, hb1, hb2, hb3⟩ (fun hHeld => ?_)
 refine with_tab swapT13 (fun HT_ => ?_)
 clear hc0_ hc1_ ha0 ha1 ha2 ha3 hb0 hb1 hb2 hb3 hh0
 generalize (wr.drewN nq).drew = w1 at n0 n1 n2 n3 n4 n5 hHeld ⊢
 clear RC RF RH B4 BX HB
 have RC := n0
 have RF := n1
 have RH := n2
 have B4 := n3
 have BX := n4
 have HB := n5
 clear n0 n1 n2 n3 n4 n5
 refine pu 0 43 HT_ ?_
 refine pu 1 44 HT_ ?_
 refine pu 2 45 HT_ ?_
 refine ta 3 46 HT_ hHeld (v := ?_) ?_ ?_; rotate_left
 {
 rintro w' ⟨s0, s1, s2, s3, s4, s5, s6, s7, s8⟩
 go_simp
 with_reducible rfl
 }
 refine pu 4 47 HT_ ?_
 refine pu 5 48 HT_ ?_
 refine pu 6 49 HT_ ?_
 refine ta 7 50 HT_ hHeld (v := ?_) ?_ ?_; rotate_left
 {
 rintro w' ⟨s0, s1, s2, s3, s4, s5, s6, s7, s8⟩
 go_simp
 with_reducible rfl
 }
 refine pu 9 52 HT_ ?_
 refine pu 10 53 HT_ ?_
 refine ta 11 54 HT_ hHeld (v := ?_) ?_ ?_; rotate_left
 {
 rintro w' ⟨s0, s1, s2, s3, s4, s5, s6, s7, s8⟩
 go_simp
 with_reducible rfl
 }
 refine on 8 (some 51) HT_ (fun K hK => ?_)
 refine goes_ Try.func23 (by kernel_rfl) rfl #[.agg #[.int .u8 b.f0, .int .i64 b.f1, .int .i64 b.f2, .int .i64 b.f3]] (by rfl) rfl rfl (by (try simp only [List.map_toArray, List.map_cons, List.map_nil]); first | done | rfl) ?_
 refine (swap_rank.calls b.f0 b.f1 b.f2 b.f3 (rankN b.f0) _ (rank_f _ _ _ _)).mono ?_
 rintro e w2 ⟨rfl, hb⟩
 refine ⟨_, rfl, ?_⟩
 have n0 := Aside0.mk (Kd.R_below RC.out hb)
 have n1 := Aside0.mk (Kd.R_below RF.out hb)
 have n2 := Aside0.mk (Kd.R_below RH.out hb)
 have n3 := Aside0.mk (blk_below B4.out hb)
 have n4 := Aside0.mk (blk_below BX.out hb)
 have n5 := Aside0.mk (below_step HB.out hb)
 clear RC RF RH B4 BX HB
 have RC := n0
 have RF := n1
 have RH := n2
 have B4 := n3
 have BX := n4
 have HB := n5
 clear n0 n1 n2 n3 n4 n5
 refine hK.out _ _ ⟨pw_cell_below hb hHeld.1, pw_cell_below hb hHeld.2.1, pw_cell_below hb hHeld.2.2.1, pw_cell_below hb hHeld.2.2.2.1, pw_cell_below hb hHeld.2.2.2.2.1, pw_cell_below hb hHeld.2.2.2.2.2.1, pw_cell_below hb hHeld.2.2.2.2.2.2.1, pw_cell_below hb hHeld.2.2.2.2.2.2.2.1, pw_cell_below hb hHeld.2.2.2.2.2.2.2.2⟩ (fun hHeld => ?_)
 clear hb
 clear hK K
 refine nm 51 ?_
 refine on 12 (some 55) HT_ (fun K hK => ?_)
 refine goes_ Try.func23 (by kernel_rfl) rfl #[.agg #[.int .u8 a.f0, .int .i64 a.f1, .int .i64 a.f2, .int .i64 a.f3]] (by rfl) rfl rfl (by (try simp only [List.map_toArray, List.map_cons, List.map_nil]); first | done | rfl) ?_
 refine (swap_rank.calls a.f0 a.f1 a.f2 a.f3 (rankN a.f0) _ (rank_f _ _ _ _)).mono ?_
 rintro e w2 ⟨rfl, hb⟩
 refine ⟨_, rfl, ?_⟩
 have n0 := Aside0.mk (Kd.R_below RC.out hb)
 have n1 := Aside0.mk (Kd.R_below RF.out hb)
 have n2 := Aside0.mk (Kd.R_below RH.out hb)
 have n3 := Aside0.mk (blk_below B4.out hb)
 have n4 := Aside0.mk (blk_below BX.out hb)
 have n5 := Aside0.mk (below_step HB.out hb)
 clear RC RF RH B4 BX HB
 have RC := n0
 have RF := n1
 have RH := n2
 have B4 := n3
 have BX := n4
 have HB := n5
 clear n0 n1 n2 n3 n4 n5
 refine hK.out _ _ ⟨pw_cell_below hb hHeld.1, pw_cell_below hb hHeld.2.1, pw_cell_below hb hHeld.2.2.1, pw_cell_below hb hHeld.2.2.2.1, pw_cell_below hb hHeld.2.2.2.2.1, pw_cell_below hb hHeld.2.2.2.2.2.1, pw_cell_below hb hHeld.2.2.2.2.2.2.1, pw_cell_below hb hHeld.2.2.2.2.2.2.2.1, pw_cell_below hb hHeld.2.2.2.2.2.2.2.2⟩ (fun hHeld => ?_)
 clear hb
 clear hK K
 refine nm 55 ?_
 refine pu 13 56 HT_ ?_
 refine pu 14 57 HT_ ?_
 refine pu 15 58 HT_ ?_
 refine pu 16 59 HT_ ?_
 refine pu 17 60 HT_ ?_
 refine ta 18 61 HT_ hHeld (v := ?_) ?_ ?_; rotate_left
 {
 rintro w' ⟨s0, s1, s2, s3, s4, s5, s6, s7, s8⟩
 go_simp
 with_reducible rfl
 }
 refine pu 19 62 HT_ ?_
 refine pu 20 63 HT_ ?_
 refine ta 21 64 HT_ hHeld (v := ?_) ?_ ?_; rotate_left
 {
 rintro w' ⟨s0, s1, s2, s3, s4, s5, s6, s7, s8⟩
 go_simp
 with_reducible rfl
 }
 refine on 22 (some 65) HT_ (fun K hK => ?_)
 refine goes_ Try.func17 (by kernel_rfl) rfl #[.agg #[.int .u8 a.f0, .int .i64 a.f1, .int .i64 a.f2, .int .i64 a.f3], .agg #[.int .u8 b.f0, .int .i64 b.f1, .int .i64 b.f2, .int .i64 b.f3]] (by rfl) rfl rfl (by (try simp only [List.map_toArray, List.map_cons, List.map_nil]); first | done | rfl) ?_
 refine (swap_Apart.calls k1 a.f0 a.f1 a.f2 a.f3 b.f0 b.f1 b.f2 b.f3 false _ HA_.out).mono ?_
 rintro e w2 ⟨rfl, hb⟩
 refine ⟨_, rfl, ?_⟩
 have n0 := Aside0.mk (Kd.R_below RC.out hb)
 have n1 := Aside0.mk (Kd.R_below RF.out hb)
 have n2 := Aside0.mk (Kd.R_below RH.out hb)
 have n3 := Aside0.mk (blk_below B4.out hb)
 have n4 := Aside0.mk (blk_below BX.out hb)
 have n5 := Aside0.mk (below_step HB.out hb)
 clear RC RF RH B4 BX HB
 have RC := n0
 have RF := n1
 have RH := n2
 have B4 := n3
 have BX := n4
 have HB := n5
 clear n0 n1 n2 n3 n4 n5
 refine hK.out _ _ ⟨pw_cell_below hb hHeld.1, pw_cell_below hb hHeld.2.1, pw_cell_below hb hHeld.2.2.1, pw_cell_below hb hHeld.2.2.2.1, pw_cell_below hb hHeld.2.2.2.2.1, pw_cell_below hb hHeld.2.2.2.2.2.1, pw_cell_below hb hHeld.2.2.2.2.2.2.1, pw_cell_below hb hHeld.2.2.2.2.2.2.2.1, pw_cell_below hb hHeld.2.2.2.2.2.2.2.2⟩ (fun hHeld => ?_)
 clear hb
 clear hK K
 refine nm 65 ?_
 refine pu 23 66 HT_ ?_
 refine pu 24 67 HT_ ?_
 refine dn HT_ ?_
 try go_wp2
 go_roundg k1
 case measure => have := HK1.out; omega
 case rel => exact ⟨m + 1 + 1, now, fr, by go_num, ⟨by omega, by omega, hn1, hn2⟩, ⟨H⟩, ⟨by have := HK1.out; omega⟩, RC, RF, RH, B4, BX, HB⟩
 )
 | true => (
 rw [if_pos rfl] at H
 go_wp2
 go_quiet (fail)
 try go_wp2
 have n0 := Aside0.mk (Kd.R_drew (Kd.R_drewN RC.out nq))
 have n1 := Aside0.mk (Kd.R_drew (Kd.R_drewN RF.out nq))
 have n2 := Aside0.mk (Kd.R_drew (Kd.R_drewN RH.out nq))
 have n3 := Aside0.mk (blk_drew (blk_drewN B4.out nq))
 have n4 := Aside0.mk (blk_drew (blk_drewN BX.out nq))
 have n5 := Aside0.mk (below_drew1 (pw_below_drewN HB.out nq))
 refine start_ (n := 25) (S := fun w' => w'.cell? ⟨gh, m + 1, none⟩ = some (.bool false) ∧ w'.cell? ⟨go, m * 4, none⟩ = some (.int .u8 a.f0) ∧ w'.cell? ⟨go, m * 4 + 1, none⟩ = some (.int .i64 a.f1) ∧ w'.cell? ⟨go, m * 4 + 2, none⟩ = some (.int .i64 a.f2) ∧ w'.cell? ⟨go, m * 4 + 3, none⟩ = some (.int .i64 a.f3) ∧ w'.cell? ⟨go, (m + 1) * 4, none⟩ = some (.int .u8 b.f0) ∧ w'.cell? ⟨go, (m + 1) * 4 + 1, none⟩ = some (.int .i64 b.f1) ∧ w'.cell? ⟨go, (m + 1) * 4 + 2, none⟩ = some (.int .i64 b.f2) ∧ w'.cell? ⟨go, (m + 1) * 4 + 3, none⟩ = some (.int .i64 b.f3)) (ds := []) (bm 25 0) (by kernel_rfl) rfl (by kernel_rfl) ⟨hh0, ha0, ha1, ha2, ha3, hb0, hb1, hb2, hb3⟩ (fun hHeld => ?_)
 refine with_tab swapT13 (fun HT_ => ?_)
 clear hc0_ hc1_ ha0 ha1 ha2 ha3 hb0 hb1 hb2 hb3 hh0
 generalize (wr.drewN nq).drew = w1 at n0 n1 n2 n3 n4 n5 hHeld ⊢
 clear RC RF RH B4 BX HB
 have RC := n0
 have RF := n1
 have RH := n2
 have B4 := n3
 have BX := n4
 have HB := n5
 clear n0 n1 n2 n3 n4 n5
 refine pu 0 43 HT_ ?_
 refine pu 1 44 HT_ ?_
 refine pu 2 45 HT_ ?_
 refine ta 3 46 HT_ hHeld (v := ?_) ?_ ?_; rotate_left
 {
 rintro w' ⟨s0, s1, s2, s3, s4, s5, s6, s7, s8⟩
 go_simp
 with_reducible rfl
 }
 refine pu 4 47 HT_ ?_
 refine pu 5 48 HT_ ?_
 refine pu 6 49 HT_ ?_
 refine ta 7 50 HT_ hHeld (v := ?_) ?_ ?_; rotate_left
 {
 rintro w' ⟨s0, s1, s2, s3, s4, s5, s6, s7, s8⟩
 go_simp
 with_reducible rfl
 }
 refine pu 9 52 HT_ ?_
 refine pu 10 53 HT_ ?_
 refine ta 11 54 HT_ hHeld (v := ?_) ?_ ?_; rotate_left
 {
 rintro w' ⟨s0, s1, s2, s3, s4, s5, s6, s7, s8⟩
 go_simp
 with_reducible rfl
 }
 refine on 8 (some 51) HT_ (fun K hK => ?_)
 refine goes_ Try.func23 (by kernel_rfl) rfl #[.agg #[.int .u8 b.f0, .int .i64 b.f1, .int .i64 b.f2, .int .i64 b.f3]] (by rfl) rfl rfl (by (try simp only [List.map_toArray, List.map_cons, List.map_nil]); first | done | rfl) ?_
 refine (swap_rank.calls b.f0 b.f1 b.f2 b.f3 (rankN b.f0) _ (rank_f _ _ _ _)).mono ?_
 rintro e w2 ⟨rfl, hb⟩
 refine ⟨_, rfl, ?_⟩
 have n0 := Aside0.mk (Kd.R_below RC.out hb)
 have n1 := Aside0.mk (Kd.R_below RF.out hb)
 have n2 := Aside0.mk (Kd.R_below RH.out hb)
 have n3 := Aside0.mk (blk_below B4.out hb)
 have n4 := Aside0.mk (blk_below BX.out hb)
 have n5 := Aside0.mk (below_step HB.out hb)
 clear RC RF RH B4 BX HB
 have RC := n0
 have RF := n1
 have RH := n2
 have B4 := n3
 have BX := n4
 have HB := n5
 clear n0 n1 n2 n3 n4 n5
 refine hK.out _ _ ⟨pw_cell_below hb hHeld.1, pw_cell_below hb hHeld.2.1, pw_cell_below hb hHeld.2.2.1, pw_cell_below hb hHeld.2.2.2.1, pw_cell_below hb hHeld.2.2.2.2.1, pw_cell_below hb hHeld.2.2.2.2.2.1, pw_cell_below hb hHeld.2.2.2.2.2.2.1, pw_cell_below hb hHeld.2.2.2.2.2.2.2.1, pw_cell_below hb hHeld.2.2.2.2.2.2.2.2⟩ (fun hHeld => ?_)
 clear hb
 clear hK K
 refine nm 51 ?_
 refine on 12 (some 55) HT_ (fun K hK => ?_)
 refine goes_ Try.func23 (by kernel_rfl) rfl #[.agg #[.int .u8 a.f0, .int .i64 a.f1, .int .i64 a.f2, .int .i64 a.f3]] (by rfl) rfl rfl (by (try simp only [List.map_toArray, List.map_cons, List.map_nil]); first | done | rfl) ?_
 refine (swap_rank.calls a.f0 a.f1 a.f2 a.f3 (rankN a.f0) _ (rank_f _ _ _ _)).mono ?_
 rintro e w2 ⟨rfl, hb⟩
 refine ⟨_, rfl, ?_⟩
 have n0 := Aside0.mk (Kd.R_below RC.out hb)
 have n1 := Aside0.mk (Kd.R_below RF.out hb)
 have n2 := Aside0.mk (Kd.R_below RH.out hb)
 have n3 := Aside0.mk (blk_below B4.out hb)
 have n4 := Aside0.mk (blk_below BX.out hb)
 have n5 := Aside0.mk (below_step HB.out hb)
 clear RC RF RH B4 BX HB
 have RC := n0
 have RF := n1
 have RH := n2
 have B4 := n3
 have BX := n4
 have HB := n5
 clear n0 n1 n2 n3 n4 n5
 refine hK.out _ _ ⟨pw_cell_below hb hHeld.1, pw_cell_below hb hHeld.2.1, pw_cell_below hb hHeld.2.2.1, pw_cell_below hb hHeld.2.2.2.1, pw_cell_below hb hHeld.2.2.2.2.1, pw_cell_below hb hHeld.2.2.2.2.2.1, pw_cell_below hb hHeld.2.2.2.2.2.2.1, pw_cell_below hb hHeld.2.2.2.2.2.2.2.1, pw_cell_below hb hHeld.2.2.2.2.2.2.2.2⟩ (fun hHeld => ?_)
 clear hb
 clear hK K
 refine nm 55 ?_
 refine pu 13 56 HT_ ?_
 refine pu 14 57 HT_ ?_
 refine pu 15 58 HT_ ?_
 refine pu 16 59 HT_ ?_
 refine pu 17 60 HT_ ?_
 refine ta 18 61 HT_ hHeld (v := ?_) ?_ ?_; rotate_left
 {
 rintro w' ⟨s0, s1, s2, s3, s4, s5, s6, s7, s8⟩
 go_simp
 with_reducible rfl
 }
 refine pu 19 62 HT_ ?_
 refine pu 20 63 HT_ ?_
 refine ta 21 64 HT_ hHeld (v := ?_) ?_ ?_; rotate_left
 {
 rintro w' ⟨s0, s1, s2, s3, s4, s5, s6, s7, s8⟩
 go_simp
 with_reducible rfl
 }
 refine on 22 (some 65) HT_ (fun K hK => ?_)
 refine goes_ Try.func17 (by kernel_rfl) rfl #[.agg #[.int .u8 a.f0, .int .i64 a.f1, .int .i64 a.f2, .int .i64 a.f3], .agg #[.int .u8 b.f0, .int .i64 b.f1, .int .i64 b.f2, .int .i64 b.f3]] (by rfl) rfl rfl (by (try simp only [List.map_toArray, List.map_cons, List.map_nil]); first | done | rfl) ?_
 refine (swap_Apart.calls k1 a.f0 a.f1 a.f2 a.f3 b.f0 b.f1 b.f2 b.f3 true _ HA_.out).mono ?_
 rintro e w2 ⟨rfl, hb⟩
 refine ⟨_, rfl, ?_⟩
 have n0 := Aside0.mk (Kd.R_below RC.out hb)
 have n1 := Aside0.mk (Kd.R_below RF.out hb)
 have n2 := Aside0.mk (Kd.R_below RH.out hb)
 have n3 := Aside0.mk (blk_below B4.out hb)
 have n4 := Aside0.mk (blk_below BX.out hb)
 have n5 := Aside0.mk (below_step HB.out hb)
 clear RC RF RH B4 BX HB
 have RC := n0
 have RF := n1
 have RH := n2
 have B4 := n3
 have BX := n4
 have HB := n5
 clear n0 n1 n2 n3 n4 n5
 refine hK.out _ _ ⟨pw_cell_below hb hHeld.1, pw_cell_below hb hHeld.2.1, pw_cell_below hb hHeld.2.2.1, pw_cell_below hb hHeld.2.2.2.1, pw_cell_below hb hHeld.2.2.2.2.1, pw_cell_below hb hHeld.2.2.2.2.2.1, pw_cell_below hb hHeld.2.2.2.2.2.2.1, pw_cell_below hb hHeld.2.2.2.2.2.2.2.1, pw_cell_below hb hHeld.2.2.2.2.2.2.2.2⟩ (fun hHeld => ?_)
 clear hb
 clear hK K
 refine nm 65 ?_
 refine pu 23 66 HT_ ?_
 refine pu 24 67 HT_ ?_
 refine dn HT_ ?_
 try go_wp2
 have n0 := Aside0.mk (Kd.R_drew RC.out)
 have n1 := Aside0.mk (Kd.R_drew RF.out)
 have n2 := Aside0.mk (Kd.R_drew RH.out)
 have n3 := Aside0.mk (blk_drew B4.out)
 have n4 := Aside0.mk (blk_drew BX.out)
 have n5 := Aside0.mk (below_drew1 HB.out)
 refine start_ (n := 12) (S := fun w' => w'.cell? ⟨gh, m + 1, none⟩ = some (.bool false) ∧ w'.cell? ⟨go, m * 4, none⟩ = some (.int .u8 a.f0) ∧ w'.cell? ⟨go, m * 4 + 1, none⟩ = some (.int .i64 a.f1) ∧ w'.cell? ⟨go, m * 4 + 2, none⟩ = some (.int .i64 a.f2) ∧ w'.cell? ⟨go, m * 4 + 3, none⟩ = some (.int .i64 a.f3) ∧ w'.cell? ⟨go, (m + 1) * 4, none⟩ = some (.int .u8 b.f0) ∧ w'.cell? ⟨go, (m + 1) * 4 + 1, none⟩ = some (.int .i64 b.f1) ∧ w'.cell? ⟨go, (m + 1) * 4 + 2, none⟩ = some (.int .i64 b.f2) ∧ w'.cell? ⟨go, (m + 1) * 4 + 3, none⟩ = some (.int .i64 b.f3)) (ds := [9, 11]) (bm 12 0) (by kernel_rfl) rfl (by kernel_rfl) hHeld (fun hHeld => ?_)
 refine with_tab swapT15 (fun HT_ => ?_)
 generalize w2.drew = w3 at n0 n1 n2 n3 n4 n5 hHeld ⊢
 clear RC RF RH B4 BX HB
 have RC := n0
 have RF := n1
 have RH := n2
 have B4 := n3
 have BX := n4
 have HB := n5
 clear n0 n1 n2 n3 n4 n5
 refine pu 0 70 HT_ ?_
 refine pu 1 71 HT_ ?_
 refine pu 2 72 HT_ ?_
 refine pu 3 73 HT_ ?_
 refine ta 4 74 HT_ hHeld (v := ?_) ?_ ?_; rotate_left
 {
 rintro w' ⟨s0, s1, s2, s3, s4, s5, s6, s7, s8⟩
 go_simp
 with_reducible rfl
 }
 refine pu 5 75 HT_ ?_
 refine pu 6 76 HT_ ?_
 refine ta 7 77 HT_ hHeld (v := ?_) ?_ ?_; rotate_left
 {
 rintro w' ⟨s0, s1, s2, s3, s4, s5, s6, s7, s8⟩
 go_simp
 with_reducible rfl
 }
 refine pu 8 78 HT_ ?_
 refine la 9 (none) HT_ (fun K hK => ?_)
 obtain ⟨cx, hcl, hM, hcc, hfr⟩ := Kd.R_elem RC.out z33 (m : Int) (by omega) (by omega)
 obtain rfl := k33_openM hM
 have HP := Kd.R_seg RC.out (m : Int) (by omega) (by omega) (seg := [.int .u8 b.f0, .int .i64 b.f1, .int .i64 b.f2, .int .i64 b.f3]) (j := 0) hcl hcc (show 4 ≤ 4 from by decide) (x' := b) (k33_mkM _ _ _ b) (fun _ hk => hk)
 have hx0 := hcc 0 _ rfl
 have hf0 : w3.frozen? ⟨go, m * 4, none⟩ = false := hfr 0
 have hx1 := hcc 1 _ rfl
 have hf1 : w3.frozen? ⟨go, m * 4 + 1, none⟩ = false := hfr 1
 have hx2 := hcc 2 _ rfl
 have hf2 : w3.frozen? ⟨go, m * 4 + 2, none⟩ = false := hfr 2
 have hx3 := hcc 3 _ rfl
 have hf3 : w3.frozen? ⟨go, m * 4 + 3, none⟩ = false := hfr 3
 rw [Int.toNat_natCast, show (k33).sz = 4 from rfl] at hx0 hx1 hx2 hx3
 rw [Nat.add_zero] at hx0
 refine skip_ (w1 := ((((w3.setCell ⟨go, m * 4, none⟩ (.int .u8 b.f0)).setCell ⟨go, m * 4 + 1, none⟩ (.int .i64 b.f1)).setCell ⟨go, m * 4 + 2, none⟩ (.int .i64 b.f2)).setCell ⟨go, m * 4 + 3, none⟩ (.int .i64 b.f3))) (by rfl) rfl ?_ ?_
 {
 go_simp
 try rfl
 }
 refine hK.out _ _ ?_
 clear hK K
 have hg : w3.grownBy ((((w3.setCell ⟨go, m * 4, none⟩ (.int .u8 b.f0)).setCell ⟨go, m * 4 + 1, none⟩ (.int .i64 b.f1)).setCell ⟨go, m * 4 + 2, none⟩ (.int .i64 b.f2)).setCell ⟨go, m * 4 + 3, none⟩ (.int .i64 b.f3)) (some go) := HP.2
 have n0 : Aside0 (Kd.R k33 33 ((((w3.setCell ⟨go, m * 4, none⟩ (.int .u8 b.f0)).setCell ⟨go, m * 4 + 1, none⟩ (.int .i64 b.f1)).setCell ⟨go, m * 4 + 2, none⟩ (.int .i64 b.f2)).setCell ⟨go, m * 4 + 3, none⟩ (.int .i64 b.f3)) w.heap.size (fun _ => True) (.slice (some ⟨go, 0, none⟩) l0.length cC) (now.set m b)) := ⟨HP.1⟩
 have n1 := Aside0.mk (Kd.R_over' (v := .slice (some ⟨go, 0, none⟩) l0.length cC) RF.out (Kd.R_typed RC.out) (by decide) hg)
 have n2 := Aside0.mk (Kd.R_over' (v := (.slice (some ⟨go, 0, none⟩) l0.length cC)) RH.out (Kd.R_typed RC.out) (by decide) hg)
 have n3 := Aside0.mk (blk_grown B4.out hg (Kd.R_ne RC.out B4.out (by decide)))
 have n4 := Aside0.mk (blk_grown BX.out hg (Kd.R_ne RC.out BX.out (by decide)))
 have n5 : Aside0 (Below w.heap.size w ((((w3.setCell ⟨go, m * 4, none⟩ (.int .u8 b.f0)).setCell ⟨go, m * 4 + 1, none⟩ (.int .i64 b.f1)).setCell ⟨go, m * 4 + 2, none⟩ (.int .i64 b.f2)).setCell ⟨go, m * 4 + 3, none⟩ (.int .i64 b.f3))) := ⟨below_set (below_set (below_set (below_set (HB.out) gbC) gbC) gbC) gbC⟩
 clear HP hg hcl hM hcc hfr hx0 hx1 hx2 hx3 hf0 hf1 hf2 hf3
 generalize ((((w3.setCell ⟨go, m * 4, none⟩ (.int .u8 b.f0)).setCell ⟨go, m * 4 + 1, none⟩ (.int .i64 b.f1)).setCell ⟨go, m * 4 + 2, none⟩ (.int .i64 b.f2)).setCell ⟨go, m * 4 + 3, none⟩ (.int .i64 b.f3)) = w4 at n0 n1 n2 n3 n4 n5 ⊢
 clear RC RF RH B4 BX HB
 have RC := n0
 have RF := n1
 have RH := n2
 have B4 := n3
 have BX := n4
 have HB := n5
 clear n0 n1 n2 n3 n4 n5
 refine pu 10 79 HT_ ?_
 refine la 11 (none) HT_ (fun K hK => ?_)
 obtain ⟨cy, hcl, hM, hcc, hfr⟩ := Kd.R_elem RC.out z33 ((m + 1 : Nat) : Int) (by omega) (by omega)
 obtain rfl := k33_openM hM
 have HP := Kd.R_seg RC.out ((m + 1 : Nat) : Int) (by omega) (by omega) (seg := [.int .u8 a.f0, .int .i64 a.f1, .int .i64 a.f2, .int .i64 a.f3]) (j := 0) hcl hcc (show 4 ≤ 4 from by decide) (x' := a) (k33_mkM _ _ _ a) (fun _ hk => hk)
 have hx0 := hcc 0 _ rfl
 have hf0 : w4.frozen? ⟨go, (m + 1) * 4, none⟩ = false := hfr 0
 have hx1 := hcc 1 _ rfl
 have hf1 : w4.frozen? ⟨go, (m + 1) * 4 + 1, none⟩ = false := hfr 1
 have hx2 := hcc 2 _ rfl
 have hf2 : w4.frozen? ⟨go, (m + 1) * 4 + 2, none⟩ = false := hfr 2
 have hx3 := hcc 3 _ rfl
 have hf3 : w4.frozen? ⟨go, (m + 1) * 4 + 3, none⟩ = false := hfr 3
 rw [Int.toNat_natCast, show (k33).sz = 4 from rfl] at hx0 hx1 hx2 hx3
 rw [Nat.add_zero] at hx0
 refine skip_ (w1 := ((((w4.setCell ⟨go, (m + 1) * 4, none⟩ (.int .u8 a.f0)).setCell ⟨go, (m + 1) * 4 + 1, none⟩ (.int .i64 a.f1)).setCell ⟨go, (m + 1) * 4 + 2, none⟩ (.int .i64 a.f2)).setCell ⟨go, (m + 1) * 4 + 3, none⟩ (.int .i64 a.f3))) (by rfl) rfl ?_ ?_
 {
 go_simp
 try rfl
 }
 refine hK.out _ _ ?_
 clear hK K
 have hg : w4.grownBy ((((w4.setCell ⟨go, (m + 1) * 4, none⟩ (.int .u8 a.f0)).setCell ⟨go, (m + 1) * 4 + 1, none⟩ (.int .i64 a.f1)).setCell ⟨go, (m + 1) * 4 + 2, none⟩ (.int .i64 a.f2)).setCell ⟨go, (m + 1) * 4 + 3, none⟩ (.int .i64 a.f3)) (some go) := HP.2
 have n0 : Aside0 (Kd.R k33 33 ((((w4.setCell ⟨go, (m + 1) * 4, none⟩ (.int .u8 a.f0)).setCell ⟨go, (m + 1) * 4 + 1, none⟩ (.int .i64 a.f1)).setCell ⟨go, (m + 1) * 4 + 2, none⟩ (.int .i64 a.f2)).setCell ⟨go, (m + 1) * 4 + 3, none⟩ (.int .i64 a.f3)) w.heap.size (fun _ => True) (.slice (some ⟨go, 0, none⟩) l0.length cC) ((now.set m b).set (m + 1) a)) := ⟨HP.1⟩
 have n1 := Aside0.mk (Kd.R_over' (v := .slice (some ⟨go, 0, none⟩) l0.length cC) RF.out (Kd.R_typed RC.out) (by decide) hg)
 have n2 := Aside0.mk (Kd.R_over' (v := (.slice (some ⟨go, 0, none⟩) l0.length cC)) RH.out (Kd.R_typed RC.out) (by decide) hg)
 have n3 := Aside0.mk (blk_grown B4.out hg (Kd.R_ne RC.out B4.out (by decide)))
 have n4 := Aside0.mk (blk_grown BX.out hg (Kd.R_ne RC.out BX.out (by decide)))
 have n5 : Aside0 (Below w.heap.size w ((((w4.setCell ⟨go, (m + 1) * 4, none⟩ (.int .u8 a.f0)).setCell ⟨go, (m + 1) * 4 + 1, none⟩ (.int .i64 a.f1)).setCell ⟨go, (m + 1) * 4 + 2, none⟩ (.int .i64 a.f2)).setCell ⟨go, (m + 1) * 4 + 3, none⟩ (.int .i64 a.f3))) := ⟨below_set (below_set (below_set (below_set (HB.out) gbC) gbC) gbC) gbC⟩
 clear HP hg hcl hM hcc hfr hx0 hx1 hx2 hx3 hf0 hf1 hf2 hf3
 generalize ((((w4.setCell ⟨go, (m + 1) * 4, none⟩ (.int .u8 a.f0)).setCell ⟨go, (m + 1) * 4 + 1, none⟩ (.int .i64 a.f1)).setCell ⟨go, (m + 1) * 4 + 2, none⟩ (.int .i64 a.f2)).setCell ⟨go, (m + 1) * 4 + 3, none⟩ (.int .i64 a.f3)) = w5 at n0 n1 n2 n3 n4 n5 ⊢
 clear RC RF RH B4 BX HB
 have RC := n0
 have RF := n1
 have RH := n2
 have B4 := n3
 have BX := n4
 have HB := n5
 clear n0 n1 n2 n3 n4 n5
 refine dn HT_ ?_
 try go_wp2
 have hcF : w5.cell? ⟨g4, 1, none⟩ = some (.slice (some ⟨gf, 0, none⟩) l0.length cF) := (blk_cell B4.out 1).trans rfl
 obtain ⟨hxm, _⟩ := Kd.R_celln 0 RF.out (m : Int) (by omega) (by omega)
 obtain ⟨hxn, _⟩ := Kd.R_celln 0 RF.out ((m + 1 : Nat) : Int) (by omega) (by omega)
 rw [Int.toNat_natCast, show rdOf 0 fr (m : Int) = fr.getD m 0 by simp [rdOf]] at hxm
 rw [Int.toNat_natCast, show rdOf 0 fr ((m + 1 : Nat) : Int) = fr.getD (m + 1) 0 by simp [rdOf]] at hxn
 generalize ex : fr.getD m 0 = x at hxm
 generalize ey : fr.getD (m + 1) 0 = y at hxn
 have EX := Aside0.mk ex
 have EY := Aside0.mk ey
 clear ex ey
 have HM0 := Aside0.mk (show (0 : Int) ≤ (m : Int) by omega)
 have HM1 := Aside0.mk (show (m : Int) < (l0.length : Int) by omega)
 have HM2 := Aside0.mk (show (0 : Int) ≤ ((m + 1 : Nat) : Int) by omega)
 have HM3 := Aside0.mk (show ((m + 1 : Nat) : Int) < (l0.length : Int) by omega)
 have d2 := eq_true (show (m : Int) < (l0.length : Int) by omega)
 have ew3 : wrap64 (m : Int) = (m : Int) := by unfold wrap64; omega
 have n0 := Aside0.mk (Kd.R_drew RC.out)
 have n1 := Aside0.mk (Kd.R_drew RF.out)
 have n2 := Aside0.mk (Kd.R_drew RH.out)
 have n3 := Aside0.mk (blk_drew B4.out)
 have n4 := Aside0.mk (blk_drew BX.out)
 have n5 := Aside0.mk (below_drew1 HB.out)
 refine start_ (n := 22) (S := fun w' => w'.cell? ⟨g4, 1, none⟩ = some (.slice (some ⟨gf, 0, none⟩) l0.length cF) ∧ w'.cell? ⟨gf, m + 1, none⟩ = some (.int .i64 y)) (ds := [21]) (bm 22 0) (by kernel_rfl) rfl (by kernel_rfl) ⟨hcF, hxn⟩ (fun hHeld => ?_)
 refine with_tab swapT16 (fun HT_ => ?_)
 clear hcF hxm hxn
 generalize w5.drew = w6 at n0 n1 n2 n3 n4 n5 hHeld ⊢
 clear RC RF RH B4 BX HB
 have RC := n0
 have RF := n1
 have RH := n2
 have B4 := n3
 have BX := n4
 have HB := n5
 clear n0 n1 n2 n3 n4 n5
 refine pu 0 80 HT_ ?_
 refine ta 1 81 HT_ hHeld (v := ?_) ?_ ?_; rotate_left
 {
 rintro w' ⟨s0, s1⟩
 go_simp
 with_reducible rfl
 }
 refine pu 2 82 HT_ ?_
 refine pu 3 83 HT_ ?_
 refine pu 4 84 HT_ ?_
 refine ta 5 85 HT_ hHeld (v := ?_) ?_ ?_; rotate_left
 {
 rintro w' ⟨s0, s1⟩
 go_simp
 with_reducible rfl
 }
 refine pu 6 86 HT_ ?_
 refine pu 7 87 HT_ ?_
 refine ta 8 88 HT_ hHeld (v := ?_) ?_ ?_; rotate_left
 {
 rintro w' ⟨s0, s1⟩
 go_simp
 with_reducible rfl
 }
 refine pu 9 89 HT_ ?_
 refine pu 10 90 HT_ ?_
 refine ta 11 91 HT_ hHeld (v := ?_) ?_ ?_; rotate_left
 {
 rintro w' ⟨s0, s1⟩
 go_simp
 with_reducible rfl
 }
 refine pu 12 92 HT_ ?_
 refine ta 13 93 HT_ hHeld (v := ?_) ?_ ?_; rotate_left
 {
 rintro w' ⟨s0, s1⟩
 go_simp
 with_reducible rfl
 }
 refine pu 14 94 HT_ ?_
 refine pu 15 95 HT_ ?_
 refine pu 16 96 HT_ ?_
 refine on 17 (some 97) HT_ (fun K hK => ?_)
 obtain ⟨hx0, hf0⟩ := Kd.R_celln 0 RF.out (m : Int) HM0.out HM1.out
 rw [Int.toNat_natCast, show rdOf 0 fr (m : Int) = fr.getD m 0 by simp [rdOf], EX.out] at hx0
 clear hf0
 refine value_ (v := .int .i64 x) (w1 := w6) (by rfl) rfl ?_ ?_
 {
 go_simp
 try rfl
 }
 clear hx0
 refine hK.out _ _ hHeld (fun hHeld => ?_)
 clear hK K
 refine nm 97 ?_
 refine pu 18 98 HT_ ?_
 refine on 19 (none) HT_ (fun K hK => ?_)
 have EW3 := Aside0.mk ew3
 clear ew ew2 ew3
 obtain ⟨hx0, hf0⟩ := Kd.R_celln 0 RF.out (m : Int) HM0.out HM1.out
 have HP := Kd.R_putg RF.out (m : Int) y
 rw [Int.toNat_natCast] at hx0 hf0 HP
 refine skip_ (w1 := (w6.setCell ⟨gf, m, none⟩ (.int .i64 y))) (by rfl) rfl ?_ ?_
 {
 go_simp
 try rfl
 }
 have hg : w6.grownBy (w6.setCell ⟨gf, m, none⟩ (.int .i64 y)) (some gf) := HP.2
 have n0 := Aside0.mk (Kd.R_over' (v := .slice (some ⟨gf, 0, none⟩) l0.length cF) RC.out (Kd.R_typed RF.out) (by decide) hg)
 have n1 : Aside0 (Kd.R (Kd.int .i64) 3 (w6.setCell ⟨gf, m, none⟩ (.int .i64 y)) w.heap.size (fun _ => True) (.slice (some ⟨gf, 0, none⟩) l0.length cF) (fr.set m y)) := ⟨HP.1⟩
 have n2 := Aside0.mk (Kd.R_over' (v := (.slice (some ⟨gf, 0, none⟩) l0.length cF)) RH.out (Kd.R_typed RF.out) (by decide) hg)
 have n3 := Aside0.mk (blk_grown B4.out hg (Kd.R_ne RF.out B4.out (by decide)))
 have n4 := Aside0.mk (blk_grown BX.out hg (Kd.R_ne RF.out BX.out (by decide)))
 have n5 : Aside0 (Below w.heap.size w (w6.setCell ⟨gf, m, none⟩ (.int .i64 y))) := ⟨below_set (HB.out) gbF⟩
 clear HP hg hx0 hf0
 generalize (w6.setCell ⟨gf, m, none⟩ (.int .i64 y)) = w7 at n0 n1 n2 n3 n4 n5 ⊢
 clear RC RF RH B4 BX HB
 have RC := n0
 have RF := n1
 have RH := n2
 have B4 := n3
 have BX := n4
 have HB := n5
 clear n0 n1 n2 n3 n4 n5
 have s0 : w7.cell? ⟨g4, 1, none⟩ = some (.slice (some ⟨gf, 0, none⟩) l0.length cF) := (blk_cell B4.out 1).trans rfl
 obtain ⟨s1, _⟩ := Kd.R_celln 0 RF.out ((m + 1 : Nat) : Int) HM2.out HM3.out
 rw [Int.toNat_natCast, show rdOf 0 (fr.set m y) ((m + 1 : Nat) : Int) = fr.getD (m + 1) 0 by simp [rdOf], EY.out] at s1
 refine hK.out _ _ ⟨s0, s1⟩ (fun hHeld => ?_)
 clear hK K s0 s1
 refine pu 20 99 HT_ ?_
 refine la 21 (none) HT_ (fun K hK => ?_)
 obtain ⟨hx0, hf0⟩ := Kd.R_celln 0 RF.out ((m + 1 : Nat) : Int) HM2.out HM3.out
 have HP := Kd.R_putg RF.out ((m + 1 : Nat) : Int) x
 rw [Int.toNat_natCast] at hx0 hf0 HP
 refine skip_ (w1 := (w7.setCell ⟨gf, m + 1, none⟩ (.int .i64 x))) (by rfl) rfl ?_ ?_
 {
 go_simp
 try rfl
 }
 refine hK.out _ _ ?_
 clear hK K
 have hg : w7.grownBy (w7.setCell ⟨gf, m + 1, none⟩ (.int .i64 x)) (some gf) := HP.2
 have n0 := Aside0.mk (Kd.R_over' (v := .slice (some ⟨gf, 0, none⟩) l0.length cF) RC.out (Kd.R_typed RF.out) (by decide) hg)
 have n1 : Aside0 (Kd.R (Kd.int .i64) 3 (w7.setCell ⟨gf, m + 1, none⟩ (.int .i64 x)) w.heap.size (fun _ => True) (.slice (some ⟨gf, 0, none⟩) l0.length cF) ((fr.set m y).set (m + 1) x)) := ⟨HP.1⟩
 have n2 := Aside0.mk (Kd.R_over' (v := (.slice (some ⟨gf, 0, none⟩) l0.length cF)) RH.out (Kd.R_typed RF.out) (by decide) hg)
 have n3 := Aside0.mk (blk_grown B4.out hg (Kd.R_ne RF.out B4.out (by decide)))
 have n4 := Aside0.mk (blk_grown BX.out hg (Kd.R_ne RF.out BX.out (by decide)))
 have n5 : Aside0 (Below w.heap.size w (w7.setCell ⟨gf, m + 1, none⟩ (.int .i64 x))) := ⟨below_set (HB.out) gbF⟩
 clear HP hg hx0 hf0
 generalize (w7.setCell ⟨gf, m + 1, none⟩ (.int .i64 x)) = w8 at n0 n1 n2 n3 n4 n5 ⊢
 clear RC RF RH B4 BX HB
 have RC := n0
 have RF := n1
 have RH := n2
 have B4 := n3
 have BX := n4
 have HB := n5
 clear n0 n1 n2 n3 n4 n5
 refine dn HT_ ?_
 have ew3 := EW3.out
 try go_wp2
 all_goals (
 clear ew3
 have ea := EA.out
 subst ea
 have eb := EB.out
 subst eb
 have ex := EX.out
 subst ex
 have ey := EY.out
 subst ey
 go_roundg k1
 case measure => have := HK1.out; omega
 case rel => exact ⟨max m 1, swapL z33 now (m + 1), swapL 0 fr (m + 1), (by first | go_num | (congr 1; omega) | (simp; omega)), ⟨by omega, by omega, by rw [swapL_length]; exact hn1, by rw [swapL_length]; exact hn2⟩, ⟨H⟩, ⟨by have := HK1.out; omega⟩, RC, RF, RH, B4, BX, HB⟩
 )
 )
 }
 )
 }
 {
 rw [if_neg hlt] at H
 have H := Option.some.inj H
 injection H with e1 e2
 subst e1; subst e2
 have dge : decide ((i : Int) < (l0.length : Int)) = false := decide_eq_false (by omega)
 have hc0_ : wr.cell? ⟨g4, 0, none⟩ = some (.slice AC l0.length cC) := (blk_cell B4.out 0).trans rfl
 have hc1_ : wr.cell? ⟨g4, 1, none⟩ = some (.slice AF l0.length cF) := (blk_cell B4.out 1).trans rfl
 have hx0_ : wr.cell? ⟨w.heap.size, 0, none⟩ = some (.slice none 0 0) := (blk_cell BX.out 0).trans rfl
 have hx1_ : wr.cell? ⟨w.heap.size, 1, none⟩ = some (.slice none 0 0) := (blk_cell BX.out 1).trans rfl
 have hf0_ := blk_frozen BX.out 0
 have hf1_ := blk_frozen BX.out 1
 go_wp2
 refine bodyPost_ret (results_cell_row rfl _ _ w.heap.size 30 #[.slice AC l0.length cC, .slice AF l0.length cF] (0, 0) _ rfl (blk_put (cs := #[.slice AC l0.length cC, .slice none 0 0]) (blk_put (cs := #[.slice none 0 0, .slice none 0 0]) BX.out 0 _ rfl) 1 _ rfl) Try.underlying30 rfl (by kernel_rfl)) rfl ?_
 exact ⟨_, _, rfl, Kd.R_mono (Kd.R_far (p := ⟨w.heap.size, 1, none⟩) (Kd.R_far (p := ⟨w.heap.size, 0, none⟩) (Kd.R_types RC.out BX.out (by decide)) (fun _ hk => hk.2) _) (fun _ hk => hk.2) _) (fun _ _ => trivial), Kd.R_mono (Kd.R_far (p := ⟨w.heap.size, 1, none⟩) (Kd.R_far (p := ⟨w.heap.size, 0, none⟩) (Kd.R_types RF.out BX.out (by decide)) (fun _ hk => hk.2) _) (fun _ hk => hk.2) _) (fun _ _ => trivial), below_set (below_set HB.out (Nat.le_refl _)) (Nat.le_refl _)⟩
 }
 )
 )
 }
 )
 }
end Go.Proofs.Yticdodbnjlnjlaa.P
