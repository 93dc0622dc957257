-- written by this project's xprint.py (a turn of the kit's printer; its own texts among them)
import Derived.Test.YtfiemikganhgeaaPx0
import Derived.Test.YtfiemikganhgeaaPx3
import Derived.Test.YtfiemikganhgeaaPx4
import Derived.Test.YtfiemikganhgeaaPx5
import Derived.Test.YtfiemikganhgeaaPx6
namespace Go.Proofs.Ytfiemikganhgeaa.P
open Go.RowKit Go.Proofs.YtfiemikganhgeaaW.PrintWords Go.Proofs.YtfiemikganhgeaaW.PrintLast Go.Proofs.YtfiemikganhgeaaW.PrintMore
attribute [local go_sem] max2_int min2_int max_two min_two max_three min_three max_four min_four   -- for this text's walks alone
attribute [local irreducible] Calls
set_option linter.unusedVariables false
set_option linter.unusedSimpArgs false

/-! ### interlockref13_Solve: function 18 -/
/-! interlockref13.Solve: round by round. -/
def placeI (k : Nat) (ss : List (List Int)) (gs ks : List Int) (st : Int) (m bk : Bool) (i : Int) (a b : List Int) : Option (List Int × List Int) :=
  if bk = true then (interlockref13_after.f k ss gs ks st m bk a i).bind fun x => (interlockref13_through.f ss gs ks st m bk i x).bind fun y => some (a.set i.toNat y, b.set i.toNat x)
  else (interlockref13_before.f k ss gs ks st m bk b i).bind fun x => (interlockref13_through.f ss gs ks st m bk i x).bind fun y => some (a.set i.toNat x, b.set i.toNat y)
def passI (k : Nat) (ss : List (List Int)) (gs ks : List Int) (st : Int) (m bk : Bool) : Nat → Nat → List Int → List Int → Bool → Option (List Int × List Int × Bool)
  | 0, _, a, b, e => some (a, b, e)
  | d + 1, i, a, b, e => (placeI k ss gs ks st m bk (i : Int) a b).bind fun r => passI k ss gs ks st m bk d (i + 1) r.1 r.2 (e || (rd a (i : Int) != rd r.1 (i : Int) || rd b (i : Int) != rd r.2 (i : Int)))
def roundsI (k : Nat) (ss : List (List Int)) (gs ks : List Int) (st : Int) (m bk : Bool) : Nat → List Int → List Int → Option (List Int × List Int)
  | 0, _, _ => none
  | d + 1, a, b => (passI k ss gs ks st m bk ss.length 0 a b false).bind fun r => if r.2.2 = true then roundsI k ss gs ks st m bk d r.1 r.2.1 else some (r.1, r.2.1)
/-- The two rows at work. -/
structure Rw (w0 w : World) (vA vB : Value) (n : Nat) (a b : List Int) : Prop where
  ra : Kd.R (Kd.int .u64) 24 w w0.heap.size (fun k => vA.ownBlock = some k) vA a
  rb : Kd.R (Kd.int .u64) 24 w w0.heap.size (fun k => vB.ownBlock = some k) vB b
  ne : ∀ k, vA.ownBlock = some k → vB.ownBlock ≠ some k
  la : a.length = n
  lb : b.length = n
  below : Below w0.heap.size w0 w
theorem Rw.later {w0 w w' : World} {vA vB : Value} {n : Nat} {a b : List Int} (h : Rw w0 w vA vB n a b) (hb : Below w.heap.size w w') : Rw w0 w' vA vB n a b :=
  ⟨Kd.R_below h.ra hb, Kd.R_below h.rb hb, h.ne, h.la, h.lb, below_step h.below hb⟩
theorem Rw.setA {w0 w : World} {vA vB : Value} {n : Nat} {a b : List Int} (h : Rw w0 w vA vB n a b) {g c : Nat} (e : vA = .slice (some ⟨g, 0, none⟩) n c) (i v : Int) : Rw w0 (w.setCell ⟨g, i.toNat, none⟩ (.int .u64 v)) vA vB n (a.set i.toNat v) b := by
  have eb : vA.ownBlock = some g := by rw [e]; rfl
  have hB := Kd.R_base h.ra g eb
  have hp : Kd.R (Kd.int .u64) 24 (w.setCell ⟨g, i.toNat, none⟩ (.int .u64 v)) w0.heap.size (fun k => vA.ownBlock = some k) vA (a.set i.toNat v) := by
    have h1 := h.ra
    rw [e] at h1 ⊢
    exact (Kd.R_putg h1 i v).1
  exact ⟨hp, Kd.R_far (p := ⟨g, i.toNat, none⟩) h.rb (fun k hk c => h.ne k (by rw [eb, c]) hk) _, h.ne, by rw [List.length_set]; exact h.la, h.lb, h.below.setCell hB _⟩
theorem Rw.setB {w0 w : World} {vA vB : Value} {n : Nat} {a b : List Int} (h : Rw w0 w vA vB n a b) {g c : Nat} (e : vB = .slice (some ⟨g, 0, none⟩) n c) (i v : Int) : Rw w0 (w.setCell ⟨g, i.toNat, none⟩ (.int .u64 v)) vA vB n a (b.set i.toNat v) := by
  have eb : vB.ownBlock = some g := by rw [e]; rfl
  have hB := Kd.R_base h.rb g eb
  have hp : Kd.R (Kd.int .u64) 24 (w.setCell ⟨g, i.toNat, none⟩ (.int .u64 v)) w0.heap.size (fun k => vB.ownBlock = some k) vB (b.set i.toNat v) := by
    have h1 := h.rb
    rw [e] at h1 ⊢
    exact (Kd.R_putg h1 i v).1
  exact ⟨Kd.R_far (p := ⟨g, i.toNat, none⟩) h.ra (fun k hk c => h.ne g (by have c2 : k = g := c; rw [← c2]; exact hk) eb) _, hp, h.ne, h.la, by rw [List.length_set]; exact h.lb, h.below.setCell hB _⟩
theorem Rw.cellA {w0 w : World} {vA vB : Value} {n : Nat} {a b : List Int} (h : Rw w0 w vA vB n a b) {g c : Nat} (e : vA = .slice (some ⟨g, 0, none⟩) n c) (i : Int) (h0 : 0 ≤ i) (h1 : i < (n : Int)) : w.cell? ⟨g, i.toNat, none⟩ = some (.int .u64 (rd a i)) ∧ w.frozen? ⟨g, i.toNat, none⟩ = false := by
  have hr := h.ra
  rw [e] at hr
  exact Kd.R_celln 0 hr i h0 h1
theorem Rw.cellB {w0 w : World} {vA vB : Value} {n : Nat} {a b : List Int} (h : Rw w0 w vA vB n a b) {g c : Nat} (e : vB = .slice (some ⟨g, 0, none⟩) n c) (i : Int) (h0 : 0 ≤ i) (h1 : i < (n : Int)) : w.cell? ⟨g, i.toNat, none⟩ = some (.int .u64 (rd b i)) ∧ w.frozen? ⟨g, i.toNat, none⟩ = false := by
  have hr := h.rb
  rw [e] at hr
  exact Kd.R_celln 0 hr i h0 h1
theorem rd_set (l : List Int) (j : Nat) (hj : j < l.length) (x : Int) : rd (l.set j x) (j : Int) = x := by
  unfold rd
  rw [Int.toNat_natCast, List.getD_eq_getElem?_getD, List.getElem?_set, if_pos rfl, if_pos hj]; rfl
theorem refT21 : rtab .any (opsOf Try.f18 21) = rtab .any (opsOf Try.f18 21) := rfl
theorem refT23 : rtab .any (opsOf Try.f18 23) = rtab .any (opsOf Try.f18 23) := rfl
set_option maxHeartbeats 8000000 in
set_option maxRecDepth 100000 in
theorem ref_any (AS : Option Addr) (cS : Nat) (ss : List (List Int)) (AG : Option Addr) (cG : Nat) (gs : List Int) (AK : Option Addr) (cK : Nat) (ks : List Int) (st : Int) (m bk : Bool) (w : World)
    (hrS : Kd.C (Kd.slice 3 (Kd.int .i64)) w AS ss.length ss) (hcS : ss.length ≤ cS) (hrG : Kd.C (Kd.int .u64) w AG gs.length gs) (hcG : gs.length ≤ cG) (hrK : Kd.C (Kd.int .u64) w AK ks.length ks) (hcK : ks.length ≤ cK) (hn : ss.length ≤ 64) (k : Nat) (z : Int) (hz : interlockref13_none.f k m = some z) (res : List Int × List Int)
    (hres : roundsI k ss gs ks st m bk k (List.replicate ss.length z) (List.replicate ss.length z) = some res) :
    Calls Try.prog 18 #[.agg #[.slice AS ss.length cS, .slice AG gs.length cG, .slice AK ks.length cK, .int .u64 st, .bool m, .bool bk]] w (SolP w res) := by
  have hu31 := Try.underlying31
  have HRS := Aside0.mk hrS
  have HRG := Aside0.mk hrG
  have HRK := Aside0.mk hrK
  have dn : decide ((64 : Int) < (ss.length : Int)) = false := decide_eq_false (by omega)
  have HCS := Aside0.mk hcS
  have HCG := Aside0.mk hcG
  have HCK := Aside0.mk hcK
  have HZ := Aside0.mk hz
  have HRES := Aside0.mk hres
  clear hrS hrG hrK hcS hcG hcK hz hres
  go_enter Try.func18, Try.ntmps18
  go_wp2_with (first | ((with_reducible refine gate_dst (N := 1) rfl ?_); refine box_event ?hg (N := 1) ?hd (cs := #[.slice AS ss.length cS, .slice AG gs.length cG, .slice AK ks.length cK, .int .u64 st, .bool m, .bool bk]) (t := 31) ?hr ?_; (case hd => rfl); (case hg => rfl); (case hr => first | (go_simp; done) | (go_simp; rfl)); intro gp hg w0 hbox hb; have HX := Aside0.mk hbox; have HB0 := Aside0.mk hb; have HGP := Aside0.mk (blk_lt hbox); clear hg hbox hb; have hc0 := (blk_cell HX.out 0).trans rfl) | (refine gate_ (.makeSlice 23 (.tmp 17) (.tmp 17)) rfl ?_; refine Kd.R_make (Kd.int .u64) (w0 := w0) w0.heap.size 24 rfl rfl 23 (.tmp 17) (.tmp 17) rfl (ss.length : Int) rfl rfl Try.underlying23 (.int .u64 0) 8 info24 rfl (by decide) (by decide) 0 (ok := fun _ => True) (okp := fun _ => False) ?hz (fun _ h => h.elim) trivial (by omega) ?hl (Below.refl _ _) (Nat.le_refl _) ?_; (case hz => rfl); (case hl => (rw [Int.toNat_natCast]; omega)); intro vA w1 hA hb1 hgA hoA; rw [Int.toNat_natCast] at hA; have HA := Aside0.mk hA; have HB1 := Aside0.mk hb1; clear hA hb1 hgA hoA hc0) | (refine gate_ (.makeSlice 23 (.tmp 19) (.tmp 19)) rfl ?_; refine Kd.R_make (Kd.int .u64) (w0 := w0) w0.heap.size 24 rfl rfl 23 (.tmp 19) (.tmp 19) rfl (ss.length : Int) rfl rfl Try.underlying23 (.int .u64 0) 8 info24 rfl (by decide) (by decide) 0 (ok := fun _ => True) (okp := fun _ => False) ?hz (fun _ h => h.elim) trivial (by omega) ?hl HB1.out (below_size HB1.out) ?_; (case hz => rfl); (case hl => (rw [Int.toNat_natCast]; omega)); intro vB w2 hB hb2 hgB hoB; rw [Int.toNat_natCast] at hB; have HB_ := Aside0.mk hB; have HB2 := Aside0.mk hb2; have HGB := Aside0.mk hgB; have HOB := Aside0.mk hoB; clear hB hb2 hgB hoB))
  obtain ⟨AA, cA, eA⟩ := Kd.R_slice HA.out
  obtain ⟨AB, cB, eB⟩ := Kd.R_slice HB_.out
  rw [List.length_replicate] at eA eB
  subst eA eB
  have S0 : Aside0 (Rw w0 w2 (.slice AA ss.length cA) (.slice AB ss.length cB) ss.length (fillL z 0 ss.length 0) (fillL z 0 ss.length 0)) := ⟨by
    rw [fillL_zero]
    have h1 := Kd.R_grown HA.out HGB.out (fun _ _ => by simp)
    exact ⟨⟨fun k hk => hk, h1.2⟩, ⟨fun k hk => hk, HB_.out.2⟩, (ne_new (Kd.R_lt HA.out) HOB.out).1, List.length_replicate, List.length_replicate, HB2.out⟩⟩
  clear HA HB_ HB1 HB2 HGB HOB
  go_loopw [7] (fun v7 wr => ∃ j : Nat, j ≤ ss.length ∧ v7 = .int .i64 (j : Int) ∧ Aside0 (Rw w0 wr (.slice AA ss.length cA) (.slice AB ss.length cB) ss.length (fillL z 0 ss.length j) (fillL z 0 ss.length j))) (fun v7 _ => ss.length - (intOf v7).toNat)
  case atStart => exact ⟨0, Nat.zero_le _, rfl, S0⟩
  case round =>
    clear S0
    obtain ⟨j, hj, rfl, S1⟩ := hrel
    by_cases hlt : j < ss.length
    · obtain ⟨gA, cA', eA, _⟩ := Kd.R_form S1.out.ra (by have := S1.out.la; omega)
      obtain ⟨gB, cB', eB, _⟩ := Kd.R_form S1.out.rb (by have := S1.out.lb; omega)
      have aA : AA = some ⟨gA, 0, none⟩ := by injection eA
      have aB : AB = some ⟨gB, 0, none⟩ := by injection eB
      clear eA eB
      subst aA aB
      have pj0 := eq_true (show (0 : Int) ≤ (j : Int) by omega)
      have pj1 := eq_true (show (j : Int) < (ss.length : Int) by omega)
      have hc4 := pw_cell_below S1.out.below ((blk_cell HX.out 4).trans (show (#[Value.slice AS ss.length cS, .slice AG gs.length cG, .slice AK ks.length cK, .int .u64 st, .bool m, .bool bk] : Array Value)[4]? = some (.bool m) from rfl))
      have HLT := Aside0.mk hlt
      go_wp2_with (first | (go_at_call 27; refine (interlockref13_none.calls k m z _ HZ.out).mono ?_; rintro e wq ⟨rfl, hd⟩; have S2 := Aside0.mk (S1.out.later hd.below); clear S1 hd hc4; obtain ⟨hx0, hf0⟩ := S2.out.cellA rfl (j : Int) (by omega) (by omega); rw [Int.toNat_natCast] at hx0 hf0) | ((with_reducible refine gate_store (t := 24) (p := 31) rfl ?_); refine store_event (w1 := (wq.setCell ⟨gA, j, none⟩ (.int .u64 z))) rfl rfl rfl ?hr ?_; (case hr => first | (go_simp; done) | (go_simp; rfl)); intro w3 hS; have S3 : Aside0 (Rw w0 w3 (.slice (some ⟨gA, 0, none⟩) ss.length cA) (.slice (some ⟨gB, 0, none⟩) ss.length cB) ss.length (fillL z 0 ss.length (j + 1)) (fillL z 0 ss.length j)) := ⟨by rw [hS]; have h := S2.out.setA rfl (j : Int) z; rw [Int.toNat_natCast, fillL_set _ _ _ _ HLT.out] at h; exact h⟩; clear hS S2 hx0 hf0; have hc4 := pw_cell_below S3.out.below ((blk_cell HX.out 4).trans (show (#[Value.slice AS ss.length cS, .slice AG gs.length cG, .slice AK ks.length cK, .int .u64 st, .bool m, .bool bk] : Array Value)[4]? = some (.bool m) from rfl))) | (go_at_call 27; refine (interlockref13_none.calls k m z _ HZ.out).mono ?_; rintro e wp ⟨rfl, hd⟩; have S4 := Aside0.mk (S3.out.later hd.below); clear S3 hd hc4; obtain ⟨hx0, hf0⟩ := S4.out.cellB rfl (j : Int) (by omega) (by omega); rw [Int.toNat_natCast] at hx0 hf0) | ((with_reducible refine gate_store (t := 24) (p := 37) rfl ?_); refine store_event (w1 := (wp.setCell ⟨gB, j, none⟩ (.int .u64 z))) rfl rfl rfl ?hr ?_; (case hr => first | (go_simp; done) | (go_simp; rfl)); intro w4 hS; have S5 : Aside0 (Rw w0 w4 (.slice (some ⟨gA, 0, none⟩) ss.length cA) (.slice (some ⟨gB, 0, none⟩) ss.length cB) ss.length (fillL z 0 ss.length (j + 1)) (fillL z 0 ss.length (j + 1))) := ⟨by rw [hS]; have h := S4.out.setB rfl (j : Int) z; rw [Int.toNat_natCast, fillL_set _ _ _ _ HLT.out] at h; exact h⟩; clear hS S4 hx0 hf0))
      go_roundw
      case rel => exact ⟨j + 1, by omega, by go_num, S5⟩
      case measure => simp [intOf]; omega
    · obtain rfl : j = ss.length := by omega
      have S2 : Aside0 (Rw w0 wr (.slice AA ss.length cA) (.slice AB ss.length cB) ss.length (List.replicate ss.length z) (List.replicate ss.length z)) := ⟨by have := S1.out; rwa [fillL_full] at this⟩
      clear S1
      go_wp2
      go_loopg [8] k (fun kq v8 w' => ∃ (a b : List Int) (e : Bool), v8 = .bool e ∧ Aside0 (Rw w0 w' (.slice AA ss.length cA) (.slice AB ss.length cB) ss.length a b) ∧ Aside0 ((if e = true then roundsI k ss gs ks st m bk kq a b else some (a, b)) = some res) ∧ Aside0 (kq ≤ k))
      case atStart => exact ⟨_, _, true, rfl, S2, ⟨by rw [if_pos rfl]; exact HRES.out⟩, ⟨Nat.le_refl _⟩⟩
      case round =>
        clear S2 HRES
        obtain ⟨a, b, e, rfl, S1, HR, HK1⟩ := hrel
        cases e with
        | false =>
          have hr0 := HR.out
          rw [if_neg (by decide)] at hr0
          obtain rfl : (a, b) = res := Option.some.inj hr0
          clear hr0
          have HW : Aside0 (w.heap.size ≤ w0.heap.size) := ⟨HB0.out.size⟩
          go_wp2
          go_ret2
          exact ⟨_, _, rfl, Kd.R_lower (Kd.R_mono S1.out.ra (fun k hk e => S1.out.ne k hk e.symm)) HW.out, Kd.R_lower (Kd.R_mono S1.out.rb (fun k hk e => S1.out.ne k e.symm hk)) HW.out, below_step HB0.out S1.out.below⟩
        | true =>
          cases gk with
          | zero => exact absurd HR.out (by simp [roundsI])
          | succ k1 =>
          have hr0 := HR.out
          rw [if_pos rfl] at hr0
          obtain ⟨⟨a', b', e'⟩, hp, hr1⟩ := Option.bind_eq_some_iff.1 (show ((passI k ss gs ks st m bk ss.length 0 a b false).bind fun r => if r.2.2 = true then roundsI k ss gs ks st m bk k1 r.1 r.2.1 else some (r.1, r.2.1)) = some res from hr0)
          have HP0 : Aside0 (passI k ss gs ks st m bk (ss.length - 0) 0 a b false = some (a', b', e')) := ⟨hp⟩
          have HR1 := Aside0.mk hr1
          clear hr0 hp hr1 HR
          go_wp2
          go_loopw [8, 9] (fun v8 v9 wr => ∃ (j : Nat) (a1 b1 : List Int) (e1 : Bool), j ≤ ss.length ∧ v9 = .int .i64 (j : Int) ∧ v8 = .bool e1 ∧ Aside0 (Rw w0 wr (.slice AA ss.length cA) (.slice AB ss.length cB) ss.length a1 b1) ∧ Aside0 (passI k ss gs ks st m bk (ss.length - j) j a1 b1 e1 = some (a', b', e'))) (fun _ v9 _ => ss.length - (intOf v9).toNat)
          case atStart => exact ⟨0, a, b, false, Nat.zero_le _, rfl, rfl, S1, HP0⟩
          case round =>
            clear S1 HP0
            obtain ⟨j, a1, b1, e1, hj, rfl, rfl, S1, HP⟩ := hrel
            by_cases hlt : j < ss.length
            · obtain ⟨gA, cA', eA, _⟩ := Kd.R_form S1.out.ra (by have := S1.out.la; omega)
              obtain ⟨gB, cB', eB, _⟩ := Kd.R_form S1.out.rb (by have := S1.out.lb; omega)
              have aA : AA = some ⟨gA, 0, none⟩ := by injection eA
              have aB : AB = some ⟨gB, 0, none⟩ := by injection eB
              clear eA eB
              subst aA aB
              have pj0 := eq_true (show (0 : Int) ≤ (j : Int) by omega)
              have pj1 := eq_true (show (j : Int) < (ss.length : Int) by omega)
              have hp := HP.out
              rw [show ss.length - j = (ss.length - (j + 1)) + 1 by omega] at hp
              obtain ⟨⟨a2, b2⟩, hpl, hp2⟩ := Option.bind_eq_some_iff.1 (show ((placeI k ss gs ks st m bk (j : Int) a1 b1).bind fun r => passI k ss gs ks st m bk (ss.length - (j + 1)) (j + 1) r.1 r.2 (e1 || (rd a1 (j : Int) != rd r.1 (j : Int) || rd b1 (j : Int) != rd r.2 (j : Int)))) = some (a', b', e') from hp)
              have HP2 := Aside0.mk hp2
              clear hp hp2 HP
              obtain ⟨hA0, _⟩ := S1.out.cellA rfl (j : Int) (by omega) (by omega)
              obtain ⟨hB0, _⟩ := S1.out.cellB rfl (j : Int) (by omega) (by omega)
              rw [Int.toNat_natCast] at hA0 hB0
              have qa := Kd.R_reads' S1.out.ra
              have qb := Kd.R_reads' S1.out.rb
              have HCA := Aside0.mk qa.2.2
              have HCB := Aside0.mk qb.2.2
              have HLA : Aside0 (a1.length ≤ cA) := ⟨by have := qa.2.1; have := S1.out.la; omega⟩
              have HLB : Aside0 (b1.length ≤ cB) := ⟨by have := qb.2.1; have := S1.out.lb; omega⟩
              clear qa qb
              unfold placeI at hpl
              cases bk
              case true =>
                rw [if_pos rfl] at hpl
                obtain ⟨x, hx, hpl⟩ := Option.bind_eq_some_iff.1 hpl
                obtain ⟨y, hy, hpl⟩ := Option.bind_eq_some_iff.1 hpl
                have HXX := Aside0.mk hx
                have HPL := Aside0.mk (Prod.mk.inj (Option.some.inj hpl))
                rw [Int.toNat_natCast] at HPL
                have HY : Aside0 (interlockref13_through.f ss gs ks st m true (j : Int) (rd (b1.set j x) (j : Int)) = some y) := ⟨by rw [rd_set b1 j (by have := S1.out.lb; omega)]; exact hy⟩
                clear hx hy hpl
                have hy0 := pw_cell_below S1.out.below ((blk_cell HX.out 0).trans (show (#[.slice AS ss.length cS, .slice AG gs.length cG, .slice AK ks.length cK, .int .u64 st, .bool m, .bool true] : Array Value)[0]? = some (.slice AS ss.length cS) from rfl))
                have hy1 := pw_cell_below S1.out.below ((blk_cell HX.out 1).trans (show (#[.slice AS ss.length cS, .slice AG gs.length cG, .slice AK ks.length cK, .int .u64 st, .bool m, .bool true] : Array Value)[1]? = some (.slice AG gs.length cG) from rfl))
                have hy2 := pw_cell_below S1.out.below ((blk_cell HX.out 2).trans (show (#[.slice AS ss.length cS, .slice AG gs.length cG, .slice AK ks.length cK, .int .u64 st, .bool m, .bool true] : Array Value)[2]? = some (.slice AK ks.length cK) from rfl))
                have hy3 := pw_cell_below S1.out.below ((blk_cell HX.out 3).trans (show (#[.slice AS ss.length cS, .slice AG gs.length cG, .slice AK ks.length cK, .int .u64 st, .bool m, .bool true] : Array Value)[3]? = some (.int .u64 st) from rfl))
                have hy4 := pw_cell_below S1.out.below ((blk_cell HX.out 4).trans (show (#[.slice AS ss.length cS, .slice AG gs.length cG, .slice AK ks.length cK, .int .u64 st, .bool m, .bool true] : Array Value)[4]? = some (.bool m) from rfl))
                have hy5 := pw_cell_below S1.out.below ((blk_cell HX.out 5).trans (show (#[.slice AS ss.length cS, .slice AG gs.length cG, .slice AK ks.length cK, .int .u64 st, .bool m, .bool true] : Array Value)[5]? = some (.bool true) from rfl))
                go_wp2_with (first | (go_at_call 28; have hbz := below_step HB0.out S1.out.below; have hcal := (interlockref13_after.calls k AS cS ss AG cG gs AK cK ks st m true (some ⟨gA, 0, none⟩) cA a1 (j : Int) x wr (Kd.C_below HRS.out hbz) HCS.out (Kd.C_below HRG.out hbz) HCG.out (Kd.C_below HRK.out hbz) HCK.out HCA.out HLA.out HXX.out); rw [S1.out.la] at hcal; refine hcal.mono ?_; rintro e w4 ⟨rfl, hb⟩; have S4 := Aside0.mk (S1.out.later hb); clear hb hbz; obtain ⟨hx0, hf0⟩ := S4.out.cellB rfl (j : Int) (by omega) (by omega); rw [Int.toNat_natCast] at hx0 hf0) | ((with_reducible refine gate_store (t := 24) (p := 60) rfl ?_); refine store_event (w1 := (w4.setCell ⟨gB, j, none⟩ (.int .u64 x))) rfl rfl rfl ?hr ?_; (case hr => first | (go_simp; done) | (go_simp; rfl)); intro wq hS; have S5 : Aside0 (Rw w0 wq (.slice (some ⟨gA, 0, none⟩) ss.length cA) (.slice (some ⟨gB, 0, none⟩) ss.length cB) ss.length a1 (b1.set j x)) := ⟨by rw [hS]; have h := S4.out.setB rfl (j : Int) x; rw [Int.toNat_natCast] at h; exact h⟩; clear hS S4 S1 hx0 hf0 hA0 hB0 hy0 hy1 hy2 hy3 hy4 hy5))
                refine start_ (n := 11) (S := fun w' => Below wq.heap.size wq w') (ds := [10]) #[false, false, false, false, false, false, false, false, false, false, false] (by kernel_rfl) rfl rfl (below_drew (Below.refl _ _)) (fun hHeld => ?_)
                refine with_tab refT21 (fun HT_ => ?_)
                generalize wq.drew = wd at hHeld ⊢
                refine pure_ (i := 0) (N := some 61) (v := ?_) (a' := ?_) #[true, false, false, false, false, false, false, false, false, false, false] rfl rfl (any_of HT_.out (by kernel_rfl)) (fun _ _ _ h => h) (Or.inl ⟨by rfl, ?_⟩) ?_ ?_
                rotate_left
                · intro w'
                  go_simp
                  with_reducible rfl
                rotate_left
                · (try simp only [Act.put, sT_, sZ_, sS_, i64_w, i32_w, u8q_]); rfl
                refine pure_ (i := 1) (N := some 62) (v := ?_) (a' := ?_) #[true, true, false, false, false, false, false, false, false, false, false] rfl rfl (any_of HT_.out (by kernel_rfl)) (fun _ _ _ h => h) (Or.inl ⟨by rfl, ?_⟩) ?_ ?_
                rotate_left
                · intro w'
                  go_simp
                  with_reducible rfl
                rotate_left
                · (try simp only [Act.put, sT_, sZ_, sS_, i64_w, i32_w, u8q_]); rfl
                refine pure_ (i := 3) (N := some 64) (v := ?_) (a' := ?_) #[true, true, false, true, false, false, false, false, false, false, false] rfl rfl (any_of HT_.out (by kernel_rfl)) (fun _ _ _ h => h) (Or.inl ⟨by rfl, ?_⟩) ?_ ?_
                rotate_left
                · intro w'
                  go_simp
                  with_reducible rfl
                rotate_left
                · (try simp only [Act.put, sT_, sZ_, sS_, i64_w, i32_w, u8q_]); rfl
                refine pure_ (i := 4) (N := some 65) (v := ?_) (a' := ?_) #[true, true, false, true, true, false, false, false, false, false, false] rfl rfl (any_of HT_.out (by kernel_rfl)) (fun _ _ _ h => h) (Or.inl ⟨by rfl, ?_⟩) ?_ ?_
                rotate_left
                · intro w'
                  go_simp
                  with_reducible rfl
                rotate_left
                · (try simp only [Act.put, sT_, sZ_, sS_, i64_w, i32_w, u8q_]); rfl
                refine pure_ (i := 5) (N := some 66) (v := ?_) (a' := ?_) #[true, true, false, true, true, true, false, false, false, false, false] rfl rfl (any_of HT_.out (by kernel_rfl)) (fun _ _ _ h => h) (Or.inl ⟨by rfl, ?_⟩) ?_ ?_
                rotate_left
                · intro w'
                  go_simp
                  with_reducible rfl
                rotate_left
                · (try simp only [Act.put, sT_, sZ_, sS_, i64_w, i32_w, u8q_]); rfl
                refine pure_ (i := 6) (N := some 67) (v := ?_) (a' := ?_) #[true, true, false, true, true, true, true, false, false, false, false] rfl rfl (any_of HT_.out (by kernel_rfl)) (fun _ _ _ h => h) (Or.inl ⟨by rfl, ?_⟩) ?_ ?_
                rotate_left
                · intro w'
                  go_simp
                  with_reducible rfl
                rotate_left
                · (try simp only [Act.put, sT_, sZ_, sS_, i64_w, i32_w, u8q_]); rfl
                refine take_ (i := 2) (N := some 63) (v := ?_) (a' := ?_) #[true, true, true, true, true, true, true, false, false, false, false] rfl rfl (take_of HT_.out (by kernel_rfl)) (fun _ _ _ h => h) (Or.inl ⟨by rfl, ?_⟩) hHeld ?_ ?_
                rotate_left
                · intro w' hS'
                  have hb0 := below_step S5.out.below hS'
                  have hy0 := pw_cell_below hb0 ((blk_cell HX.out 0).trans (show (#[.slice AS ss.length cS, .slice AG gs.length cG, .slice AK ks.length cK, .int .u64 st, .bool m, .bool true] : Array Value)[0]? = some (.slice AS ss.length cS) from rfl))
                  have hy1 := pw_cell_below hb0 ((blk_cell HX.out 1).trans (show (#[.slice AS ss.length cS, .slice AG gs.length cG, .slice AK ks.length cK, .int .u64 st, .bool m, .bool true] : Array Value)[1]? = some (.slice AG gs.length cG) from rfl))
                  have hy2 := pw_cell_below hb0 ((blk_cell HX.out 2).trans (show (#[.slice AS ss.length cS, .slice AG gs.length cG, .slice AK ks.length cK, .int .u64 st, .bool m, .bool true] : Array Value)[2]? = some (.slice AK ks.length cK) from rfl))
                  have hy3 := pw_cell_below hb0 ((blk_cell HX.out 3).trans (show (#[.slice AS ss.length cS, .slice AG gs.length cG, .slice AK ks.length cK, .int .u64 st, .bool m, .bool true] : Array Value)[3]? = some (.int .u64 st) from rfl))
                  have hy4 := pw_cell_below hb0 ((blk_cell HX.out 4).trans (show (#[.slice AS ss.length cS, .slice AG gs.length cG, .slice AK ks.length cK, .int .u64 st, .bool m, .bool true] : Array Value)[4]? = some (.bool m) from rfl))
                  have hy5 := pw_cell_below hb0 ((blk_cell HX.out 5).trans (show (#[.slice AS ss.length cS, .slice AG gs.length cG, .slice AK ks.length cK, .int .u64 st, .bool m, .bool true] : Array Value)[5]? = some (.bool true) from rfl))
                  go_simp
                  with_reducible rfl
                rotate_left
                · (try simp only [Act.put, sT_, sZ_, sS_, i64_w, i32_w, u8q_]); rfl
                refine take_ (i := 7) (N := some 68) (v := ?_) (a' := ?_) #[true, true, true, true, true, true, true, true, false, false, false] rfl rfl (take_of HT_.out (by kernel_rfl)) (fun _ _ _ h => h) (Or.inl ⟨by rfl, ?_⟩) hHeld ?_ ?_
                rotate_left
                · intro w' hS'
                  have hy0 := (S5.out.cellB rfl (j : Int) (by omega) (by omega)).1
                  rw [Int.toNat_natCast] at hy0
                  have hy1 := pw_cell_below hS' hy0
                  go_simp
                  with_reducible rfl
                rotate_left
                · (try simp only [Act.put, sT_, sZ_, sS_, i64_w, i32_w, u8q_]); rfl
                refine one_ (i := 8) (N := some 69) #[true, true, true, true, true, true, true, true, true, false, false] rfl rfl (one_of HT_.out (by kernel_rfl)) (by decide) (fun K hK => ?_)
                refine call_ 29 #[.agg #[.slice AS ss.length cS, .slice AG gs.length cG, .slice AK ks.length cK, .int .u64 st, .bool m, .bool true], .int .i64 (j : Int), .int .u64 (rd (b1.set j x) (j : Int))] (by rfl) rfl ?hr ?_
                case hr => go_simp; try rfl
                have hbz := below_step HB0.out (below_step S5.out.below hHeld)
                refine (interlockref13_through.calls AS cS ss AG cG gs AK cK ks st m true (j : Int) _ y _ (Kd.C_below HRS.out hbz) HCS.out (Kd.C_below HRG.out hbz) HCG.out (Kd.C_below HRK.out hbz) HCK.out HY.out).mono ?_
                rintro e w6 ⟨rfl, hb⟩
                have hb6 := below_step hHeld hb
                refine ⟨_, rfl, ?_⟩
                refine hK.out _ _ (hb6) (fun hHeld => ?_)
                clear hK K
                refine norm_ (a' := ?_) ?_ ?_
                rotate_left
                · show Act.put _ (some 69) _ = _
                  simp only [Act.put, sT_, sZ_, sS_, i64_w, i32_w, u8q_]
                  rfl
                clear hb6 hb hbz
                have S6 := Aside0.mk (S5.out.later hHeld)
                refine pure_ (i := 9) (N := some 70) (v := ?_) (a' := ?_) #[true, true, true, true, true, true, true, true, true, true, false] rfl rfl (any_of HT_.out (by kernel_rfl)) (fun _ _ _ h => h) (Or.inl ⟨by rfl, ?_⟩) ?_ ?_
                rotate_left
                · intro w'
                  go_simp
                  with_reducible rfl
                rotate_left
                · (try simp only [Act.put, sT_, sZ_, sS_, i64_w, i32_w, u8q_]); rfl
                refine last_ (i := 10) (N := none) #[true, true, true, true, true, true, true, true, true, true, true] rfl rfl (one_of HT_.out (by kernel_rfl)) (by decide) (fun K hK => ?_)
                obtain ⟨hx0, hf0⟩ := S6.out.cellA rfl (j : Int) (by omega) (by omega)
                rw [Int.toNat_natCast] at hx0 hf0
                refine skip_ (w1 := (w6.setCell ⟨gA, j, none⟩ (.int .u64 y))) (by rfl) rfl ?hr ?_
                case hr => go_simp; try rfl
                clear hx0 hf0
                have S7 := Aside0.mk (S6.out.setA rfl (j : Int) y)
                rw [Int.toNat_natCast] at S7
                generalize w6.setCell _ _ = w7 at S7 ⊢
                clear S6 S5 hHeld
                refine hK.out _ _ ?_
                clear hK K
                refine norm_ (a' := ?_) ?_ ?_
                rotate_left
                · rfl
                refine done_ (done_of HT_.out (by kernel_rfl)) ?_
                obtain ⟨hA1, _⟩ := S7.out.cellA rfl (j : Int) (by omega) (by omega)
                obtain ⟨hB1, _⟩ := S7.out.cellB rfl (j : Int) (by omega) (by omega)
                rw [Int.toNat_natCast] at hA1 hB1
                obtain ⟨rfl, rfl⟩ := HPL.out
                clear HPL HY HXX HCA HCB HLA HLB
                cases e1
                all_goals
                  cases hq1 : (rd a1 (j : Int) != rd (a1.set j y) (j : Int))
                  all_goals
                    have HP3 := HP2.out
                    rw [hq1] at HP3
                    try go_wp2
                    go_roundw
                    case rel => exact ⟨j + 1, _, _, _, by omega, by go_num, rfl, S7, ⟨HP3⟩⟩
                    case measure => simp [intOf]; omega
              case false =>
                rw [if_neg (by decide)] at hpl
                obtain ⟨x, hx, hpl⟩ := Option.bind_eq_some_iff.1 hpl
                obtain ⟨y, hy, hpl⟩ := Option.bind_eq_some_iff.1 hpl
                have HXX := Aside0.mk hx
                have HPL := Aside0.mk (Prod.mk.inj (Option.some.inj hpl))
                rw [Int.toNat_natCast] at HPL
                have HY : Aside0 (interlockref13_through.f ss gs ks st m false (j : Int) (rd (a1.set j x) (j : Int)) = some y) := ⟨by rw [rd_set a1 j (by have := S1.out.la; omega)]; exact hy⟩
                clear hx hy hpl
                have hy0 := pw_cell_below S1.out.below ((blk_cell HX.out 0).trans (show (#[.slice AS ss.length cS, .slice AG gs.length cG, .slice AK ks.length cK, .int .u64 st, .bool m, .bool false] : Array Value)[0]? = some (.slice AS ss.length cS) from rfl))
                have hy1 := pw_cell_below S1.out.below ((blk_cell HX.out 1).trans (show (#[.slice AS ss.length cS, .slice AG gs.length cG, .slice AK ks.length cK, .int .u64 st, .bool m, .bool false] : Array Value)[1]? = some (.slice AG gs.length cG) from rfl))
                have hy2 := pw_cell_below S1.out.below ((blk_cell HX.out 2).trans (show (#[.slice AS ss.length cS, .slice AG gs.length cG, .slice AK ks.length cK, .int .u64 st, .bool m, .bool false] : Array Value)[2]? = some (.slice AK ks.length cK) from rfl))
                have hy3 := pw_cell_below S1.out.below ((blk_cell HX.out 3).trans (show (#[.slice AS ss.length cS, .slice AG gs.length cG, .slice AK ks.length cK, .int .u64 st, .bool m, .bool false] : Array Value)[3]? = some (.int .u64 st) from rfl))
                have hy4 := pw_cell_below S1.out.below ((blk_cell HX.out 4).trans (show (#[.slice AS ss.length cS, .slice AG gs.length cG, .slice AK ks.length cK, .int .u64 st, .bool m, .bool false] : Array Value)[4]? = some (.bool m) from rfl))
                have hy5 := pw_cell_below S1.out.below ((blk_cell HX.out 5).trans (show (#[.slice AS ss.length cS, .slice AG gs.length cG, .slice AK ks.length cK, .int .u64 st, .bool m, .bool false] : Array Value)[5]? = some (.bool false) from rfl))
                go_wp2_with (first | (go_at_call 30; have hbz := below_step HB0.out S1.out.below; have hcal := (interlockref13_before.calls k AS cS ss AG cG gs AK cK ks st m false (some ⟨gB, 0, none⟩) cB b1 (j : Int) x wr (Kd.C_below HRS.out hbz) HCS.out (Kd.C_below HRG.out hbz) HCG.out (Kd.C_below HRK.out hbz) HCK.out HCB.out HLB.out HXX.out); rw [S1.out.lb] at hcal; refine hcal.mono ?_; rintro e w4 ⟨rfl, hb⟩; have S4 := Aside0.mk (S1.out.later hb); clear hb hbz; obtain ⟨hx0, hf0⟩ := S4.out.cellA rfl (j : Int) (by omega) (by omega); rw [Int.toNat_natCast] at hx0 hf0) | ((with_reducible refine gate_store (t := 24) (p := 77) rfl ?_); refine store_event (w1 := (w4.setCell ⟨gA, j, none⟩ (.int .u64 x))) rfl rfl rfl ?hr ?_; (case hr => first | (go_simp; done) | (go_simp; rfl)); intro wq hS; have S5 : Aside0 (Rw w0 wq (.slice (some ⟨gA, 0, none⟩) ss.length cA) (.slice (some ⟨gB, 0, none⟩) ss.length cB) ss.length (a1.set j x) b1) := ⟨by rw [hS]; have h := S4.out.setA rfl (j : Int) x; rw [Int.toNat_natCast] at h; exact h⟩; clear hS S4 S1 hx0 hf0 hA0 hB0 hy0 hy1 hy2 hy3 hy4 hy5))
                refine start_ (n := 11) (S := fun w' => Below wq.heap.size wq w') (ds := [10]) #[false, false, false, false, false, false, false, false, false, false, false] (by kernel_rfl) rfl rfl (below_drew (Below.refl _ _)) (fun hHeld => ?_)
                refine with_tab refT23 (fun HT_ => ?_)
                generalize wq.drew = wd at hHeld ⊢
                refine pure_ (i := 0) (N := some 78) (v := ?_) (a' := ?_) #[true, false, false, false, false, false, false, false, false, false, false] rfl rfl (any_of HT_.out (by kernel_rfl)) (fun _ _ _ h => h) (Or.inl ⟨by rfl, ?_⟩) ?_ ?_
                rotate_left
                · intro w'
                  go_simp
                  with_reducible rfl
                rotate_left
                · (try simp only [Act.put, sT_, sZ_, sS_, i64_w, i32_w, u8q_]); rfl
                refine pure_ (i := 1) (N := some 79) (v := ?_) (a' := ?_) #[true, true, false, false, false, false, false, false, false, false, false] rfl rfl (any_of HT_.out (by kernel_rfl)) (fun _ _ _ h => h) (Or.inl ⟨by rfl, ?_⟩) ?_ ?_
                rotate_left
                · intro w'
                  go_simp
                  with_reducible rfl
                rotate_left
                · (try simp only [Act.put, sT_, sZ_, sS_, i64_w, i32_w, u8q_]); rfl
                refine pure_ (i := 3) (N := some 81) (v := ?_) (a' := ?_) #[true, true, false, true, false, false, false, false, false, false, false] rfl rfl (any_of HT_.out (by kernel_rfl)) (fun _ _ _ h => h) (Or.inl ⟨by rfl, ?_⟩) ?_ ?_
                rotate_left
                · intro w'
                  go_simp
                  with_reducible rfl
                rotate_left
                · (try simp only [Act.put, sT_, sZ_, sS_, i64_w, i32_w, u8q_]); rfl
                refine pure_ (i := 4) (N := some 82) (v := ?_) (a' := ?_) #[true, true, false, true, true, false, false, false, false, false, false] rfl rfl (any_of HT_.out (by kernel_rfl)) (fun _ _ _ h => h) (Or.inl ⟨by rfl, ?_⟩) ?_ ?_
                rotate_left
                · intro w'
                  go_simp
                  with_reducible rfl
                rotate_left
                · (try simp only [Act.put, sT_, sZ_, sS_, i64_w, i32_w, u8q_]); rfl
                refine pure_ (i := 5) (N := some 83) (v := ?_) (a' := ?_) #[true, true, false, true, true, true, false, false, false, false, false] rfl rfl (any_of HT_.out (by kernel_rfl)) (fun _ _ _ h => h) (Or.inl ⟨by rfl, ?_⟩) ?_ ?_
                rotate_left
                · intro w'
                  go_simp
                  with_reducible rfl
                rotate_left
                · (try simp only [Act.put, sT_, sZ_, sS_, i64_w, i32_w, u8q_]); rfl
                refine pure_ (i := 6) (N := some 84) (v := ?_) (a' := ?_) #[true, true, false, true, true, true, true, false, false, false, false] rfl rfl (any_of HT_.out (by kernel_rfl)) (fun _ _ _ h => h) (Or.inl ⟨by rfl, ?_⟩) ?_ ?_
                rotate_left
                · intro w'
                  go_simp
                  with_reducible rfl
                rotate_left
                · (try simp only [Act.put, sT_, sZ_, sS_, i64_w, i32_w, u8q_]); rfl
                refine take_ (i := 2) (N := some 80) (v := ?_) (a' := ?_) #[true, true, true, true, true, true, true, false, false, false, false] rfl rfl (take_of HT_.out (by kernel_rfl)) (fun _ _ _ h => h) (Or.inl ⟨by rfl, ?_⟩) hHeld ?_ ?_
                rotate_left
                · intro w' hS'
                  have hb0 := below_step S5.out.below hS'
                  have hy0 := pw_cell_below hb0 ((blk_cell HX.out 0).trans (show (#[.slice AS ss.length cS, .slice AG gs.length cG, .slice AK ks.length cK, .int .u64 st, .bool m, .bool false] : Array Value)[0]? = some (.slice AS ss.length cS) from rfl))
                  have hy1 := pw_cell_below hb0 ((blk_cell HX.out 1).trans (show (#[.slice AS ss.length cS, .slice AG gs.length cG, .slice AK ks.length cK, .int .u64 st, .bool m, .bool false] : Array Value)[1]? = some (.slice AG gs.length cG) from rfl))
                  have hy2 := pw_cell_below hb0 ((blk_cell HX.out 2).trans (show (#[.slice AS ss.length cS, .slice AG gs.length cG, .slice AK ks.length cK, .int .u64 st, .bool m, .bool false] : Array Value)[2]? = some (.slice AK ks.length cK) from rfl))
                  have hy3 := pw_cell_below hb0 ((blk_cell HX.out 3).trans (show (#[.slice AS ss.length cS, .slice AG gs.length cG, .slice AK ks.length cK, .int .u64 st, .bool m, .bool false] : Array Value)[3]? = some (.int .u64 st) from rfl))
                  have hy4 := pw_cell_below hb0 ((blk_cell HX.out 4).trans (show (#[.slice AS ss.length cS, .slice AG gs.length cG, .slice AK ks.length cK, .int .u64 st, .bool m, .bool false] : Array Value)[4]? = some (.bool m) from rfl))
                  have hy5 := pw_cell_below hb0 ((blk_cell HX.out 5).trans (show (#[.slice AS ss.length cS, .slice AG gs.length cG, .slice AK ks.length cK, .int .u64 st, .bool m, .bool false] : Array Value)[5]? = some (.bool false) from rfl))
                  go_simp
                  with_reducible rfl
                rotate_left
                · (try simp only [Act.put, sT_, sZ_, sS_, i64_w, i32_w, u8q_]); rfl
                refine take_ (i := 7) (N := some 85) (v := ?_) (a' := ?_) #[true, true, true, true, true, true, true, true, false, false, false] rfl rfl (take_of HT_.out (by kernel_rfl)) (fun _ _ _ h => h) (Or.inl ⟨by rfl, ?_⟩) hHeld ?_ ?_
                rotate_left
                · intro w' hS'
                  have hy0 := (S5.out.cellA rfl (j : Int) (by omega) (by omega)).1
                  rw [Int.toNat_natCast] at hy0
                  have hy1 := pw_cell_below hS' hy0
                  go_simp
                  with_reducible rfl
                rotate_left
                · (try simp only [Act.put, sT_, sZ_, sS_, i64_w, i32_w, u8q_]); rfl
                refine one_ (i := 8) (N := some 86) #[true, true, true, true, true, true, true, true, true, false, false] rfl rfl (one_of HT_.out (by kernel_rfl)) (by decide) (fun K hK => ?_)
                refine call_ 29 #[.agg #[.slice AS ss.length cS, .slice AG gs.length cG, .slice AK ks.length cK, .int .u64 st, .bool m, .bool false], .int .i64 (j : Int), .int .u64 (rd (a1.set j x) (j : Int))] (by rfl) rfl ?hr ?_
                case hr => go_simp; try rfl
                have hbz := below_step HB0.out (below_step S5.out.below hHeld)
                refine (interlockref13_through.calls AS cS ss AG cG gs AK cK ks st m false (j : Int) _ y _ (Kd.C_below HRS.out hbz) HCS.out (Kd.C_below HRG.out hbz) HCG.out (Kd.C_below HRK.out hbz) HCK.out HY.out).mono ?_
                rintro e w6 ⟨rfl, hb⟩
                have hb6 := below_step hHeld hb
                refine ⟨_, rfl, ?_⟩
                refine hK.out _ _ (hb6) (fun hHeld => ?_)
                clear hK K
                refine norm_ (a' := ?_) ?_ ?_
                rotate_left
                · show Act.put _ (some 86) _ = _
                  simp only [Act.put, sT_, sZ_, sS_, i64_w, i32_w, u8q_]
                  rfl
                clear hb6 hb hbz
                have S6 := Aside0.mk (S5.out.later hHeld)
                refine pure_ (i := 9) (N := some 87) (v := ?_) (a' := ?_) #[true, true, true, true, true, true, true, true, true, true, false] rfl rfl (any_of HT_.out (by kernel_rfl)) (fun _ _ _ h => h) (Or.inl ⟨by rfl, ?_⟩) ?_ ?_
                rotate_left
                · intro w'
                  go_simp
                  with_reducible rfl
                rotate_left
                · (try simp only [Act.put, sT_, sZ_, sS_, i64_w, i32_w, u8q_]); rfl
                refine last_ (i := 10) (N := none) #[true, true, true, true, true, true, true, true, true, true, true] rfl rfl (one_of HT_.out (by kernel_rfl)) (by decide) (fun K hK => ?_)
                obtain ⟨hx0, hf0⟩ := S6.out.cellB rfl (j : Int) (by omega) (by omega)
                rw [Int.toNat_natCast] at hx0 hf0
                refine skip_ (w1 := (w6.setCell ⟨gB, j, none⟩ (.int .u64 y))) (by rfl) rfl ?hr ?_
                case hr => go_simp; try rfl
                clear hx0 hf0
                have S7 := Aside0.mk (S6.out.setB rfl (j : Int) y)
                rw [Int.toNat_natCast] at S7
                generalize w6.setCell _ _ = w7 at S7 ⊢
                clear S6 S5 hHeld
                refine hK.out _ _ ?_
                clear hK K
                refine norm_ (a' := ?_) ?_ ?_
                rotate_left
                · rfl
                refine done_ (done_of HT_.out (by kernel_rfl)) ?_
                obtain ⟨hA1, _⟩ := S7.out.cellA rfl (j : Int) (by omega) (by omega)
                obtain ⟨hB1, _⟩ := S7.out.cellB rfl (j : Int) (by omega) (by omega)
                rw [Int.toNat_natCast] at hA1 hB1
                obtain ⟨rfl, rfl⟩ := HPL.out
                clear HPL HY HXX HCA HCB HLA HLB
                cases e1
                all_goals
                  cases hq1 : (rd a1 (j : Int) != rd (a1.set j x) (j : Int))
                  all_goals
                    have HP3 := HP2.out
                    rw [hq1] at HP3
                    try go_wp2
                    go_roundw
                    case rel => exact ⟨j + 1, _, _, _, by omega, by go_num, rfl, S7, ⟨HP3⟩⟩
                    case measure => simp [intOf]; omega
            · obtain rfl : j = ss.length := by omega
              have hp := HP.out
              rw [Nat.sub_self] at hp
              obtain ⟨rfl, h2⟩ := Prod.mk.inj (Option.some.inj (show some (a1, b1, e1) = some (a', b', e') from hp))
              obtain ⟨rfl, rfl⟩ := Prod.mk.inj h2
              clear hp h2
              go_wp2
              go_roundg k1
              case measure => have := HK1.out; omega
              case rel => exact ⟨_, _, _, rfl, S1, HR1, ⟨by have := HK1.out; omega⟩⟩
theorem placeI_mono (ss : List (List Int)) (gs ks : List Int) (st : Int) (m bk : Bool) (i : Int) (a b : List Int) (k : Nat) : LeO (placeI k ss gs ks st m bk i a b) (placeI (k + 1) ss gs ks st m bk i a b) := by
  unfold placeI
  exact LeO.ite (LeO.bind (interlockref13_after.mono _ _ _ _ _ _ _ _ k) (fun x => LeO.refl _)) (LeO.bind (interlockref13_before.mono _ _ _ _ _ _ _ _ k) (fun x => LeO.refl _))
theorem passI_mono (ss : List (List Int)) (gs ks : List Int) (st : Int) (m bk : Bool) (k : Nat) : ∀ (d i : Nat) (a b : List Int) (e : Bool), LeO (passI k ss gs ks st m bk d i a b e) (passI (k + 1) ss gs ks st m bk d i a b e)
  | 0, _, _, _, _ => LeO.refl _
  | d + 1, i, a, b, e => LeO.bind (placeI_mono ss gs ks st m bk i a b k) (fun r => passI_mono ss gs ks st m bk k d (i + 1) r.1 r.2 _)
theorem roundsI_mono (ss : List (List Int)) (gs ks : List Int) (st : Int) (m bk : Bool) (k : Nat) : ∀ (d : Nat) (a b : List Int), LeO (roundsI k ss gs ks st m bk d a b) (roundsI (k + 1) ss gs ks st m bk (d + 1) a b)
  | 0, _, _ => fun r h => by cases h
  | d + 1, a, b => LeO.bind (passI_mono ss gs ks st m bk k ss.length 0 a b false) (fun r => LeO.ite (roundsI_mono ss gs ks st m bk k d r.1 r.2.1) (LeO.refl _))
def interlockref13_Solve.f (k : Nat) (l0_0 : List (List Int)) (l0_1 : List Int) (l0_2 : List Int) (a0_3 : Int) (a0_4 : Bool) (a0_5 : Bool) : Option (List Int × List Int) := if l0_0.length ≤ 64 then ((interlockref13_none.f k a0_4).bind fun z => roundsI k l0_0 l0_1 l0_2 a0_3 a0_4 a0_5 k (List.replicate l0_0.length z) (List.replicate l0_0.length z)) else some ([], [])
theorem interlockref13_Solve.mono : ∀ a0 a1 a2 a3 a4 a5 k, LeO (interlockref13_Solve.f k a0 a1 a2 a3 a4 a5) (interlockref13_Solve.f (k + 1) a0 a1 a2 a3 a4 a5) := by
  intro a0 a1 a2 a3 a4 a5 k
  unfold interlockref13_Solve.f
  exact LeO.ite (LeO.bind (interlockref13_none.mono a4 k) (fun z => roundsI_mono _ _ _ _ _ _ k k _ _)) (LeO.refl _)
set_option maxRecDepth 100000 in
theorem ref_far (AS : Option Addr) (cS n : Nat) (v1 v2 : Value) (st : Int) (must back : Bool) (w : World) (hn : ¬ n ≤ 64) :
    Calls Try.prog 18 #[.agg #[.slice AS n cS, v1, v2, .int .u64 st, .bool must, .bool back]] w (SolP w ([], [])) := by
  have dn : decide ((64 : Int) < (n : Int)) = true := decide_eq_true (by omega)
  clear hn
  go_enter Try.func18, Try.ntmps18
  go_wp2
  go_ret2
  exact ⟨_, _, rfl, Kd.R_nil _ _ _ _ _, Kd.R_nil _ _ _ _ _, below_alloc (Below.refl _ _) _⟩
theorem interlockref13_Solve.calls (k : Nat) (A0_0 : Option Addr) (c0_0 : Nat) (l0_0 : List (List Int)) (A0_1 : Option Addr) (c0_1 : Nat) (l0_1 : List Int) (A0_2 : Option Addr) (c0_2 : Nat) (l0_2 : List Int) (a0_3 : Int) (a0_4 : Bool) (a0_5 : Bool) (r1 : List Int) (r2 : List Int) (w : World) (hr0_0 : Kd.C (Kd.slice 3 (Kd.int .i64)) w A0_0 l0_0.length l0_0) (hc0_0 : l0_0.length ≤ c0_0) (hr0_1 : Kd.C (Kd.int .u64) w A0_1 l0_1.length l0_1) (hc0_1 : l0_1.length ≤ c0_1) (hr0_2 : Kd.C (Kd.int .u64) w A0_2 l0_2.length l0_2) (hc0_2 : l0_2.length ≤ c0_2) (h : interlockref13_Solve.f k l0_0 l0_1 l0_2 a0_3 a0_4 a0_5 = some (r1, r2)) :
    Calls Try.prog 18 #[.agg #[.slice A0_0 l0_0.length c0_0, .slice A0_1 l0_1.length c0_1, .slice A0_2 l0_2.length c0_2, .int .u64 a0_3, .bool a0_4, .bool a0_5]] w fun e w' => ∃ v0_ v1_ : Value, e = .returned (.tuple #[v0_, v1_]) ∧ Kd.R (Kd.int .u64) 24 w' w.heap.size (fun k_ => some k_ ≠ (v1_ : Value).ownBlock) v0_ r1 ∧ Kd.R (Kd.int .u64) 24 w' w.heap.size (fun k_ => some k_ ≠ (v0_ : Value).ownBlock) v1_ r2 ∧ Below w.heap.size w w' := by
  unfold interlockref13_Solve.f at h
  by_cases hn : l0_0.length ≤ 64
  · rw [if_pos hn] at h
    obtain ⟨z, hz, hres⟩ := Option.bind_eq_some_iff.1 h
    exact ref_any A0_0 c0_0 l0_0 A0_1 c0_1 l0_1 A0_2 c0_2 l0_2 a0_3 a0_4 a0_5 w hr0_0 hc0_0 hr0_1 hc0_1 hr0_2 hc0_2 hn k z hz (r1, r2) hres
  · rw [if_neg hn] at h
    cases h
    exact ref_far A0_0 c0_0 l0_0.length _ _ a0_3 a0_4 a0_5 w hn

/-! ### interlockref13_Same: function 19 -/
def interlockref13_Same.l0 : Nat → List Int → List Int → Int → Option (Bool)
  | 0, _, _, _ => none
  | k + 1, x0, x1, x5 => if x5 < (x0.length : Int) then (if 0 ≤ x5 then (if x5 < (x1.length : Int) then (if (rd x0 x5) = (rd x1 x5) then (interlockref13_Same.l0 k x0 x1 (wrap64 (x5 + 1))) else (some false)) else (none)) else (none)) else (some true)
def interlockref13_Same.f (k : Nat) (l0 : List Int) (l1 : List Int) : Option (Bool) := if (l0.length : Int) = (l1.length : Int) then (interlockref13_Same.l0 k l0 l1 0) else (some false)
theorem interlockref13_Same.mono_l : ∀ k, (∀ y0 y1 y2, LeO (interlockref13_Same.l0 k y0 y1 y2) (interlockref13_Same.l0 (k + 1) y0 y1 y2))
  | 0 => fun _ _ _ r h => by simp [interlockref13_Same.l0] at h
  | k + 1 => by
    have ih0 := interlockref13_Same.mono_l k
    · intro y0 y1 y2
      unfold interlockref13_Same.l0
      repeat' first
      | (with_reducible exact ih0 _ _ _)
      | (with_reducible exact LeO.refl _)
      | (with_reducible exact LeO.none _)
      | (with_reducible refine LeO.ite ?_ ?_)
      | (with_reducible refine LeO.bind ?_ (fun _ => ?_))
      | exact ih0 _ _ _
      | exact LeO.none _
      | refine LeO.ite ?_ ?_
      | refine LeO.bind ?_ (fun _ => ?_)
theorem interlockref13_Same.mono : ∀ a0 a1 k, LeO (interlockref13_Same.f k a0 a1) (interlockref13_Same.f (k + 1) a0 a1) := by
  intro a0 a1 k
  have ih0 := interlockref13_Same.mono_l k
  unfold interlockref13_Same.f
  repeat' first
      | (with_reducible exact ih0 _ _ _)
      | (with_reducible exact LeO.refl _)
      | (with_reducible exact LeO.none _)
      | (with_reducible refine LeO.ite ?_ ?_)
      | (with_reducible refine LeO.bind ?_ (fun _ => ?_))
      | exact ih0 _ _ _
      | exact LeO.none _
      | refine LeO.ite ?_ ?_
      | refine LeO.bind ?_ (fun _ => ?_)
set_option maxHeartbeats 8000000 in
set_option maxRecDepth 100000 in
theorem interlockref13_Same.calls (k : Nat) (A0 : Option Addr) (c0 : Nat) (l0 : List Int) (A1 : Option Addr) (c1 : Nat) (l1 : List Int) (r : Bool) (w : World) (hr0 : Kd.C (Kd.int .u64) w A0 l0.length l0) (hc0 : l0.length ≤ c0) (hr1 : Kd.C (Kd.int .u64) w A1 l1.length l1) (hc1 : l1.length ≤ c1) (h : interlockref13_Same.f k l0 l1 = some r) :
    Calls Try.prog 19 #[.slice A0 l0.length c0, .slice A1 l1.length c1] w fun e w' => e = .returned (.bool r) ∧ Drawn0 w w' := by
  have HR0 := Aside0.mk hr0
  have HC0 := Aside0.mk hc0
  clear hr0 hc0
  have HR1 := Aside0.mk hr1
  have HC1 := Aside0.mk hc1
  clear hr1 hc1
  have H : (if (l0.length : Int) = (l1.length : Int) then (interlockref13_Same.l0 k l0 l1 0) else (some false)) = some r := h
  clear h
  by_cases c3 : (l0.length : Int) = (l1.length : Int)
  · rw [if_pos c3] at H
    have c3b0 : ((l0.length : Int) == (l1.length : Int)) = true := beq_iff_eq.mpr c3
    have c3b1 : ((l0.length : Int) != (l1.length : Int)) = false := bne_eq_false_iff_eq.mpr c3
    have c3b2 : (l0.length == l1.length) = true := by first | simpa using c3 | (simp at c3 ⊢; omega)
    clear c3
    have H' := Aside0.mk H
    clear H
    go_enter Try.func19, Try.ntmps19
    go_wp2
    repeat (go_quiet (fail); try go_wp2)
    go_loopg [5] k (fun kq v5 w' => ∃ (x5_1 : Int), v5 = .int .i64 x5_1 ∧ Aside0 (interlockref13_Same.l0 kq l0 l1 x5_1 = some r) ∧ Aside0 (kq ≤ k) ∧ Drawn0 w w')
    case atStart => exact ⟨(0), (by first | rfl | (simp; done) | (simp [*]; done)), H', ⟨Nat.le_refl _⟩, by repeat (first | exact Drawn0.refl _ | apply Drawn0.step)⟩
    case round =>
      clear H'
      try clear c1
      try clear p2
      try clear c3
      try clear c3b0
      try clear c3b1
      try clear c3b2
      obtain ⟨x5_1, rfl, HA, HK1, ⟨m1, rfl⟩⟩ := hrel
      cases gk with
      | zero => exact absurd HA.out (by simp [interlockref13_Same.l0])
      | succ k1 =>
        have H := HA.out
        clear HA
        simp only [interlockref13_Same.l0] at H
        by_cases c4 : x5_1 < (l0.length : Int)
        · rw [if_pos c4] at H
          have c4b0 : decide (x5_1 < (l0.length : Int)) = true := decide_eq_true c4
          clear c4
          by_cases c5 : 0 ≤ x5_1
          · rw [if_pos c5] at H
            have c5b0 : decide (0 ≤ x5_1) = true := decide_eq_true c5
            clear c5
            by_cases c6 : x5_1 < (l1.length : Int)
            · rw [if_pos c6] at H
              have c6b0 : decide (x5_1 < (l1.length : Int)) = true := decide_eq_true c6
              clear c6
              by_cases c7 : (rd l0 x5_1) = (rd l1 x5_1)
              · rw [if_pos c7] at H
                have c7b0 : ((rd l0 x5_1) == (rd l1 x5_1)) = true := beq_iff_eq.mpr c7
                have c7b1 : ((rd l0 x5_1) != (rd l1 x5_1)) = false := bne_eq_false_iff_eq.mpr c7
                clear c7
                have H' := Aside0.mk H
                clear H
                have p172 : 0 ≤ (x5_1 : Int) := of_decide_eq_true (by first | (with_reducible assumption) | assumption)
                have q172 : x5_1 < (l0.length : Int) := of_decide_eq_true (by first | (with_reducible assumption) | assumption)
                obtain ⟨ad172, e172, hx172_0⟩ := Kd.at_int HR0.out x5_1 p172 q172
                cases e172
                replace p172 := eq_true p172
                replace q172 := eq_true q172
                have p173 : 0 ≤ (x5_1 : Int) := of_decide_eq_true (by first | (with_reducible assumption) | assumption)
                have q173 : x5_1 < (l1.length : Int) := of_decide_eq_true (by first | (with_reducible assumption) | assumption)
                obtain ⟨ad173, e173, hx173_0⟩ := Kd.at_int HR1.out x5_1 p173 q173
                cases e173
                replace p173 := eq_true p173
                replace q173 := eq_true q173
                go_wp2
                repeat (go_quiet (fail); try go_wp2)
                go_roundg k1
                case measure => have := HK1.out; omega
                case rel => exact ⟨(wrap64 (x5_1 + 1)), (by first | rfl | (simp; done) | (simp [*]; done)), H', ⟨by have := HK1.out; omega⟩, by repeat (first | exact Drawn0.refl _ | apply Drawn0.step)⟩
              · rw [if_neg c7] at H
                have c7b0 : ((rd l0 x5_1) == (rd l1 x5_1)) = false := beq_eq_false_iff_ne.mpr c7
                have c7b1 : ((rd l0 x5_1) != (rd l1 x5_1)) = true := bne_iff_ne.mpr c7
                obtain rfl := Option.some.inj H
                have p172 : 0 ≤ (x5_1 : Int) := of_decide_eq_true (by first | (with_reducible assumption) | assumption)
                have q172 : x5_1 < (l0.length : Int) := of_decide_eq_true (by first | (with_reducible assumption) | assumption)
                obtain ⟨ad172, e172, hx172_0⟩ := Kd.at_int HR0.out x5_1 p172 q172
                cases e172
                replace p172 := eq_true p172
                replace q172 := eq_true q172
                have p173 : 0 ≤ (x5_1 : Int) := of_decide_eq_true (by first | (with_reducible assumption) | assumption)
                have q173 : x5_1 < (l1.length : Int) := of_decide_eq_true (by first | (with_reducible assumption) | assumption)
                obtain ⟨ad173, e173, hx173_0⟩ := Kd.at_int HR1.out x5_1 p173 q173
                cases e173
                replace p173 := eq_true p173
                replace q173 := eq_true q173
                go_wp2
                repeat (go_quiet (fail); try go_wp2)
                go_ret
                exact ⟨by first | rfl | (simp; done) | (simp [*]; done), by repeat (first | exact Drawn0.refl _ | apply Drawn0.step)⟩
            · rw [if_neg c6] at H
              exact absurd H (by simp)
          · rw [if_neg c5] at H
            exact absurd H (by simp)
        · rw [if_neg c4] at H
          have c4b0 : decide (x5_1 < (l0.length : Int)) = false := decide_eq_false c4
          clear c4
          obtain rfl := Option.some.inj H
          go_wp2
          repeat (go_quiet (fail); try go_wp2)
          go_ret
          exact ⟨by first | rfl | (simp; done) | (simp [*]; done), by repeat (first | exact Drawn0.refl _ | apply Drawn0.step)⟩
  · rw [if_neg c3] at H
    have c3b0 : ((l0.length : Int) == (l1.length : Int)) = false := beq_eq_false_iff_ne.mpr c3
    have c3b1 : ((l0.length : Int) != (l1.length : Int)) = true := bne_iff_ne.mpr c3
    have c3b2 : (l0.length == l1.length) = false := by first | simpa using c3 | (simp at c3 ⊢; omega)
    obtain rfl := Option.some.inj H
    go_enter Try.func19, Try.ntmps19
    go_wp2
    repeat (go_quiet (fail); try go_wp2)
    go_ret
    exact ⟨by first | rfl | (simp; done) | (simp [*]; done), by repeat (first | exact Drawn0.refl _ | apply Drawn0.step)⟩

/-! ### interlocklaw13_tells: function 11 -/
def interlocklaw13_tells.f (k : Nat) (l0_0 : List (List Int)) (l0_1 : List Int) (l0_2 : List Int) (a0_3 : Int) (a0_4 : Bool) (a0_5 : Bool) : Option (Bool) := (flow_Solve.f k l0_0 l0_1 l0_2 a0_3 a0_4 a0_5).bind fun bt175 => ((interlockref13_Solve.f k l0_0 l0_1 l0_2 a0_3 a0_4 a0_5).bind fun bt181 => ((interlockref13_Same.f k bt175.1 bt181.1).bind fun t187 => (if t187 = true then ((interlockref13_Same.f k bt175.2 bt181.2).bind fun t188 => (some t188)) else (none))))
theorem interlocklaw13_tells.mono : ∀ a0 a1 a2 a3 a4 a5 k, LeO (interlocklaw13_tells.f k a0 a1 a2 a3 a4 a5) (interlocklaw13_tells.f (k + 1) a0 a1 a2 a3 a4 a5) := by
  intro a0 a1 a2 a3 a4 a5 k
  unfold interlocklaw13_tells.f
  repeat' first
      | (with_reducible exact flow_Solve.mono _ _ _ _ _ _ _)
      | (with_reducible exact interlockref13_Same.mono _ _ _)
      | (with_reducible exact interlockref13_Solve.mono _ _ _ _ _ _ _)
      | (with_reducible exact LeO.refl _)
      | (with_reducible exact LeO.none _)
      | (with_reducible refine LeO.ite ?_ ?_)
      | (with_reducible refine LeO.bind ?_ (fun _ => ?_))
      | exact LeO.none _
      | refine LeO.ite ?_ ?_
      | refine LeO.bind ?_ (fun _ => ?_)
set_option maxHeartbeats 8000000 in
set_option maxRecDepth 100000 in
theorem interlocklaw13_tells.calls (k : Nat) (A0_0 : Option Addr) (c0_0 : Nat) (l0_0 : List (List Int)) (A0_1 : Option Addr) (c0_1 : Nat) (l0_1 : List Int) (A0_2 : Option Addr) (c0_2 : Nat) (l0_2 : List Int) (a0_3 : Int) (a0_4 : Bool) (a0_5 : Bool) (r : Bool) (w : World) (hr0_0 : Kd.C (Kd.slice 3 (Kd.int .i64)) w A0_0 l0_0.length l0_0) (hc0_0 : l0_0.length ≤ c0_0) (hr0_1 : Kd.C (Kd.int .u64) w A0_1 l0_1.length l0_1) (hc0_1 : l0_1.length ≤ c0_1) (hr0_2 : Kd.C (Kd.int .u64) w A0_2 l0_2.length l0_2) (hc0_2 : l0_2.length ≤ c0_2) (h : interlocklaw13_tells.f k l0_0 l0_1 l0_2 a0_3 a0_4 a0_5 = some r) :
    Calls Try.prog 11 #[.agg #[.slice A0_0 l0_0.length c0_0, .slice A0_1 l0_1.length c0_1, .slice A0_2 l0_2.length c0_2, .int .u64 a0_3, .bool a0_4, .bool a0_5]] w fun e w' => e = .returned (.bool r) ∧ Below w.heap.size w w' := by
  have hu31 := Try.underlying31
  have HR0_0 := Aside0.mk hr0_0
  have HC0_0 := Aside0.mk hc0_0
  clear hr0_0 hc0_0
  have HR0_1 := Aside0.mk hr0_1
  have HC0_1 := Aside0.mk hc0_1
  clear hr0_1 hc0_1
  have HR0_2 := Aside0.mk hr0_2
  have HC0_2 := Aside0.mk hc0_2
  clear hr0_2 hc0_2
  have HB := Aside0.mk (Below.refl w.heap.size w)
  have H : ((flow_Solve.f k l0_0 l0_1 l0_2 a0_3 a0_4 a0_5).bind fun bt175 => ((interlockref13_Solve.f k l0_0 l0_1 l0_2 a0_3 a0_4 a0_5).bind fun bt181 => ((interlockref13_Same.f k bt175.1 bt181.1).bind fun t187 => (if t187 = true then ((interlockref13_Same.f k bt175.2 bt181.2).bind fun t188 => (some t188)) else (none))))) = some r := h
  clear h
  replace H := Option.bind_eq_some_iff.mp H
  obtain ⟨⟨t175, t178⟩, A20, H⟩ := H
  replace H : ((interlockref13_Solve.f k l0_0 l0_1 l0_2 a0_3 a0_4 a0_5).bind fun bt181 => ((interlockref13_Same.f k t175 bt181.1).bind fun t187 => (if t187 = true then ((interlockref13_Same.f k t178 bt181.2).bind fun t188 => (some t188)) else (none)))) = some r := H
  have A2 := Aside0.mk A20
  clear A20
  replace H := Option.bind_eq_some_iff.mp H
  obtain ⟨⟨t181, t184⟩, A30, H⟩ := H
  replace H : ((interlockref13_Same.f k t175 t181).bind fun t187 => (if t187 = true then ((interlockref13_Same.f k t178 t184).bind fun t188 => (some t188)) else (none))) = some r := H
  have A3 := Aside0.mk A30
  clear A30
  replace H := Option.bind_eq_some_iff.mp H
  obtain ⟨t187, A40, H⟩ := H
  replace H : (if t187 = true then ((interlockref13_Same.f k t178 t184).bind fun t188 => (some t188)) else (none)) = some r := H
  have A4 := Aside0.mk A40
  clear A40
  by_cases c5 : t187 = true
  · subst c5
    have H1 : ((interlockref13_Same.f k t178 t184).bind fun t188 => (some t188)) = some r := by rw [if_pos rfl] at H; exact H
    clear H
    have H := H1
    clear H1
    replace H := Option.bind_eq_some_iff.mp H
    obtain ⟨t188, A60, H⟩ := H
    replace H : (some t188) = some r := H
    have A6 := Aside0.mk A60
    clear A60
    obtain rfl := Option.some.inj H
    go_enter Try.func11, Try.ntmps11
    go_wp2_with (first | ((with_reducible refine gate_dst (N := 1) rfl ?_); refine box_event ?hg (N := 1) ?hd (cs := #[.slice A0_0 l0_0.length c0_0, .slice A0_1 l0_1.length c0_1, .slice A0_2 l0_2.length c0_2, .int .u64 a0_3, .bool a0_4, .bool a0_5]) (t := 31) ?hr ?_; (case hd => rfl); (case hg => rfl); (case hr => first | (go_simp; done) | (go_simp; rfl)); intro gb174 hg w7 hbox hb; have n0_ := Aside0.mk (below_step (by repeat (first | (with_reducible first | exact HB.out | apply below_alloc | apply pw_below_drewN | apply below_drew1) | exact HB.out)) hb); have n1_ := Aside0.mk (hbox); have n2_ := Aside0.mk ((by rw [hg]; exact (below_size (by repeat (first | (with_reducible first | exact HB.out | apply below_alloc | apply pw_below_drewN | apply below_drew1) | exact HB.out))) : w.heap.size ≤ gb174)); have n3_ := Aside0.mk ((by rw [hg]; exact (below_size (by repeat (first | (with_reducible first | exact HB.out | apply below_alloc | apply pw_below_drewN | apply below_drew1) | exact HB.out))) : w.heap.size ≤ gb174)); clear HB; have HB := n0_; have BK174 := n1_; have GW174 := n2_; have GE174 := n3_; clear n0_ n1_ n2_ n3_; clear hb hbox hg; have hcz8_0 : w7.cell? ⟨gb174, 0, none⟩ = some (.slice A0_0 l0_0.length c0_0) := (blk_cell BK174.out 0).trans rfl; have hcz8_1 : w7.cell? ⟨gb174, 1, none⟩ = some (.slice A0_1 l0_1.length c0_1) := (blk_cell BK174.out 1).trans rfl; have hcz8_2 : w7.cell? ⟨gb174, 2, none⟩ = some (.slice A0_2 l0_2.length c0_2) := (blk_cell BK174.out 2).trans rfl; have hcz8_3 : w7.cell? ⟨gb174, 3, none⟩ = some (.int .u64 a0_3) := (blk_cell BK174.out 3).trans rfl; have hcz8_4 : w7.cell? ⟨gb174, 4, none⟩ = some (.bool a0_4) := (blk_cell BK174.out 4).trans rfl; have hcz8_5 : w7.cell? ⟨gb174, 5, none⟩ = some (.bool a0_5) := (blk_cell BK174.out 5).trans rfl; have hfz8_0 := blk_frozen BK174.out 0; have hfz8_1 := blk_frozen BK174.out 1; have hfz8_2 := blk_frozen BK174.out 2; have hfz8_3 := blk_frozen BK174.out 3; have hfz8_4 := blk_frozen BK174.out 4; have hfz8_5 := blk_frozen BK174.out 5) | ((with_reducible refine gate_callee (f := 10) rfl ?_); refine goesL_ (some 9) rfl rfl Try.func10 (by kernel_rfl) rfl #[.agg #[.slice A0_0 l0_0.length c0_0, .slice A0_1 l0_1.length c0_1, .slice A0_2 l0_2.length c0_2, .int .u64 a0_3, .bool a0_4, .bool a0_5]] rfl (by (try simp only [List.map_toArray, List.map_cons, List.map_nil]); first | done | rfl | (simp only [List.length_drop, List.length_take]; rfl)) ?_; (with_reducible refine (flow_Solve.calls k _ _ l0_0 _ _ l0_1 _ _ l0_2 a0_3 a0_4 a0_5 t175 t178 _ ?side1 ?side2 ?side3 ?side4 ?side5 ?side6 A2.out).mono ?_); (case side1 => repeat (first | exact (Kd.C_below HR0_0.out HB.out) | (with_reducible refine Kd.C_alloc ?_ _) | (with_reducible refine Kd.C_drewN ?_ _) | (with_reducible refine Kd.C_drew ?_))); (case side2 => exact HC0_0.out); (case side3 => repeat (first | exact (Kd.C_below HR0_1.out HB.out) | (with_reducible refine Kd.C_alloc ?_ _) | (with_reducible refine Kd.C_drewN ?_ _) | (with_reducible refine Kd.C_drew ?_))); (case side4 => exact HC0_1.out); (case side5 => repeat (first | exact (Kd.C_below HR0_2.out HB.out) | (with_reducible refine Kd.C_alloc ?_ _) | (with_reducible refine Kd.C_drewN ?_ _) | (with_reducible refine Kd.C_drew ?_))); (case side6 => exact HC0_2.out); rintro e w9 ⟨v176, v179, rfl, ho0, ho1, hb⟩; refine ⟨_, rfl, ?_⟩; have n0_ := Aside0.mk (Kd.R_lower ho0 (below_size (by repeat (first | (with_reducible first | exact HB.out | apply below_alloc | apply pw_below_drewN | apply below_drew1 | refine below_set ?_ GE174.out) | exact HB.out)))); have n1_ := Aside0.mk (Kd.R_lower ho1 (below_size (by repeat (first | (with_reducible first | exact HB.out | apply below_alloc | apply pw_below_drewN | apply below_drew1 | refine below_set ?_ GE174.out) | exact HB.out)))); have n2_ := Aside0.mk (blk_below (g := gb174) (o := .cells #[.slice A0_0 l0_0.length c0_0, .slice A0_1 l0_1.length c0_1, .slice A0_2 l0_2.length c0_2, .int .u64 a0_3, .bool a0_4, .bool a0_5] 31 (0, 0)) (by (with_reducible repeat (first | refine blk_drewN ?_ _ | refine blk_drew ?_ | refine blk_alloc ?_ _)); exact BK174.out) hb); have n3_ := Aside0.mk (below_step (by repeat (first | (with_reducible first | exact HB.out | apply below_alloc | apply pw_below_drewN | apply below_drew1 | refine below_set ?_ GE174.out) | exact HB.out)) hb); clear BK174; clear HB; have HO177 := n0_; have HO180 := n1_; have BK174 := n2_; have HB := n3_; clear n0_ n1_ n2_ n3_; (try clear hb); (try clear hb2); (try clear hk); (try clear hi); (try clear ho0); (try clear ho1); have hcz10_0 : w9.cell? ⟨gb174, 0, none⟩ = some (.slice A0_0 l0_0.length c0_0) := (blk_cell BK174.out 0).trans rfl; have hcz10_1 : w9.cell? ⟨gb174, 1, none⟩ = some (.slice A0_1 l0_1.length c0_1) := (blk_cell BK174.out 1).trans rfl; have hcz10_2 : w9.cell? ⟨gb174, 2, none⟩ = some (.slice A0_2 l0_2.length c0_2) := (blk_cell BK174.out 2).trans rfl; have hcz10_3 : w9.cell? ⟨gb174, 3, none⟩ = some (.int .u64 a0_3) := (blk_cell BK174.out 3).trans rfl; have hcz10_4 : w9.cell? ⟨gb174, 4, none⟩ = some (.bool a0_4) := (blk_cell BK174.out 4).trans rfl; have hcz10_5 : w9.cell? ⟨gb174, 5, none⟩ = some (.bool a0_5) := (blk_cell BK174.out 5).trans rfl; have hfz10_0 := blk_frozen BK174.out 0; have hfz10_1 := blk_frozen BK174.out 1; have hfz10_2 := blk_frozen BK174.out 2; have hfz10_3 := blk_frozen BK174.out 3; have hfz10_4 := blk_frozen BK174.out 4; have hfz10_5 := blk_frozen BK174.out 5) | ((with_reducible refine gate_callee (f := 18) rfl ?_); refine goesL_ (some 14) rfl rfl Try.func18 (by kernel_rfl) rfl #[.agg #[.slice A0_0 l0_0.length c0_0, .slice A0_1 l0_1.length c0_1, .slice A0_2 l0_2.length c0_2, .int .u64 a0_3, .bool a0_4, .bool a0_5]] rfl (by (try simp only [List.map_toArray, List.map_cons, List.map_nil]); first | done | rfl | (simp only [List.length_drop, List.length_take]; rfl)) ?_; (with_reducible refine (interlockref13_Solve.calls k _ _ l0_0 _ _ l0_1 _ _ l0_2 a0_3 a0_4 a0_5 t181 t184 _ ?side1 ?side2 ?side3 ?side4 ?side5 ?side6 A3.out).mono ?_); (case side1 => repeat (first | exact (Kd.C_below HR0_0.out HB.out) | (with_reducible refine Kd.C_alloc ?_ _) | (with_reducible refine Kd.C_drewN ?_ _) | (with_reducible refine Kd.C_drew ?_))); (case side2 => exact HC0_0.out); (case side3 => repeat (first | exact (Kd.C_below HR0_1.out HB.out) | (with_reducible refine Kd.C_alloc ?_ _) | (with_reducible refine Kd.C_drewN ?_ _) | (with_reducible refine Kd.C_drew ?_))); (case side4 => exact HC0_1.out); (case side5 => repeat (first | exact (Kd.C_below HR0_2.out HB.out) | (with_reducible refine Kd.C_alloc ?_ _) | (with_reducible refine Kd.C_drewN ?_ _) | (with_reducible refine Kd.C_drew ?_))); (case side6 => exact HC0_2.out); rintro e w11 ⟨v182, v185, rfl, ho0, ho1, hb⟩; refine ⟨_, rfl, ?_⟩; have n0_ := Aside0.mk (Kd.R_mono (Kd.R_told (Kd.R_told (Kd.R_old (by (with_reducible repeat (first | apply Kd.R_alloc | apply Kd.R_drewN | apply Kd.R_drew)); exact HO177.out) hb) (Kd.R_base ho0)) (Kd.R_base ho1)) (fun _ h_ => h_.1)); have n1_ := Aside0.mk (Kd.R_mono (Kd.R_told (Kd.R_told (Kd.R_old (by (with_reducible repeat (first | apply Kd.R_alloc | apply Kd.R_drewN | apply Kd.R_drew)); exact HO180.out) hb) (Kd.R_base ho0)) (Kd.R_base ho1)) (fun _ h_ => h_.1)); have n2_ := Aside0.mk (Kd.R_lower (Kd.R_new' (Kd.R_new' ho0 (Kd.R_lt (by (with_reducible repeat (first | apply Kd.R_alloc | apply Kd.R_drewN | apply Kd.R_drew)); exact HO177.out))) (Kd.R_lt (by (with_reducible repeat (first | apply Kd.R_alloc | apply Kd.R_drewN | apply Kd.R_drew)); exact HO180.out))) (below_size (by repeat (first | (with_reducible first | exact HB.out | apply below_alloc | apply pw_below_drewN | apply below_drew1 | refine below_set ?_ GE174.out) | exact HB.out)))); have n3_ := Aside0.mk (Kd.R_lower (Kd.R_new' (Kd.R_new' ho1 (Kd.R_lt (by (with_reducible repeat (first | apply Kd.R_alloc | apply Kd.R_drewN | apply Kd.R_drew)); exact HO177.out))) (Kd.R_lt (by (with_reducible repeat (first | apply Kd.R_alloc | apply Kd.R_drewN | apply Kd.R_drew)); exact HO180.out))) (below_size (by repeat (first | (with_reducible first | exact HB.out | apply below_alloc | apply pw_below_drewN | apply below_drew1 | refine below_set ?_ GE174.out) | exact HB.out)))); have n4_ := Aside0.mk (blk_below (g := gb174) (o := .cells #[.slice A0_0 l0_0.length c0_0, .slice A0_1 l0_1.length c0_1, .slice A0_2 l0_2.length c0_2, .int .u64 a0_3, .bool a0_4, .bool a0_5] 31 (0, 0)) (by (with_reducible repeat (first | refine blk_drewN ?_ _ | refine blk_drew ?_ | refine blk_alloc ?_ _)); exact BK174.out) hb); have n5_ := Aside0.mk (below_step (by repeat (first | (with_reducible first | exact HB.out | apply below_alloc | apply pw_below_drewN | apply below_drew1 | refine below_set ?_ GE174.out) | exact HB.out)) hb); clear HO177; clear HO180; clear BK174; clear HB; have HO177 := n0_; have HO180 := n1_; have HO183 := n2_; have HO186 := n3_; have BK174 := n4_; have HB := n5_; clear n0_ n1_ n2_ n3_ n4_ n5_; (try clear hb); (try clear hb2); (try clear hk); (try clear hi); (try clear ho0); (try clear ho1); obtain ⟨Ao12, co12, eo12⟩ := Kd.R_slice HO177.out; subst eo12; obtain ⟨Ao13, co13, eo13⟩ := Kd.R_slice HO183.out; subst eo13) | ((with_reducible refine gate_callee (f := 19) rfl ?_); refine goesL_ (some 19) rfl rfl Try.func19 (by kernel_rfl) rfl #[.slice Ao12 t175.length co12, .slice Ao13 t181.length co13] rfl (by (try simp only [List.map_toArray, List.map_cons, List.map_nil]); first | done | rfl | (simp only [List.length_drop, List.length_take]; rfl)) ?_; (with_reducible refine (interlockref13_Same.calls k _ _ t175 _ _ t181 true _ ?side1 ?side2 ?side3 ?side4 A4.out).mono ?_); (case side1 => repeat (first | exact (Kd.R_reads' HO177.out).2.2 | (with_reducible refine Kd.C_alloc ?_ _) | (with_reducible refine Kd.C_drewN ?_ _) | (with_reducible refine Kd.C_drew ?_))); (case side2 => exact (Kd.R_reads' HO177.out).2.1); (case side3 => repeat (first | exact (Kd.R_reads' HO183.out).2.2 | (with_reducible refine Kd.C_alloc ?_ _) | (with_reducible refine Kd.C_drewN ?_ _) | (with_reducible refine Kd.C_drew ?_))); (case side4 => exact (Kd.R_reads' HO183.out).2.1); rintro e w' ⟨rfl, ⟨nd, rfl⟩⟩; refine ⟨_, rfl, ?_⟩; obtain ⟨Ao14, co14, eo14⟩ := Kd.R_slice HO180.out; subst eo14; obtain ⟨Ao15, co15, eo15⟩ := Kd.R_slice HO186.out; subst eo15) | (go_at_call 19; (with_reducible refine (interlockref13_Same.calls k _ _ t178 _ _ t184 t188 _ ?side1 ?side2 ?side3 ?side4 A6.out).mono ?_); (case side1 => repeat (first | exact (Kd.R_reads' HO180.out).2.2 | (with_reducible refine Kd.C_alloc ?_ _) | (with_reducible refine Kd.C_drewN ?_ _) | (with_reducible refine Kd.C_drew ?_))); (case side2 => exact (Kd.R_reads' HO180.out).2.1); (case side3 => repeat (first | exact (Kd.R_reads' HO186.out).2.2 | (with_reducible refine Kd.C_alloc ?_ _) | (with_reducible refine Kd.C_drewN ?_ _) | (with_reducible refine Kd.C_drew ?_))); (case side4 => exact (Kd.R_reads' HO186.out).2.1); rintro e w' ⟨rfl, ⟨nd, rfl⟩⟩))
    go_ret
    exact ⟨by first | rfl | (simp [errW_none, errW_some] <;> rfl) | (simp [*, errW_none, errW_some] <;> rfl), by repeat (first | (with_reducible first | exact HB.out | apply below_alloc | apply pw_below_drewN | apply below_drew1 | refine below_set ?_ GE174.out) | exact HB.out)⟩
  · replace c5 := Bool.eq_false_iff.mpr c5
    subst c5
    have H1 : (none) = some r := by rw [if_neg (show ¬ (false = true) by decide)] at H; exact H
    clear H
    have H := H1
    clear H1
    exact absurd H (by simp)

end Go.Proofs.Ytfiemikganhgeaa.P
