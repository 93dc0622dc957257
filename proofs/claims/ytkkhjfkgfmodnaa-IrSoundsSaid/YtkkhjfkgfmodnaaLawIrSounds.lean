-- written by this project's xprint.py (a turn of the kit's printer; its own texts among them)
import Derived.Test.YtkkhjfkgfmodnaaRows
import Derived.Test.YtkkhjfkgfmodnaaPx15
import Derived.Test.YtkkhjfkgfmodnaaPureIrSounds
import Derived.WalkKit
import Derived.ProofKit
import Derived.OpenShut
import Derived.ShutString
import Derived.ChangeOld
import Derived.Below
import Derived.SizedLaws
namespace Go.Proofs.Ytkkhjfkgfmodnaa.irSounds
open Go Go.ChangeShapes Go.WideShapes Go.ChangeAt Go.RowKit Go.Proofs.Ytkkhjfkgfmodnaa.Opn
open Go.ChangeMaps (open_string shut_string)
set_option linter.unusedVariables false
theorem own : ownKnob Try.prog.godebug = none := by kernel_rfl
theorem laidOut : laidOutB Try.prog = true := by kernel_rfl
set_option maxRecDepth 100000 in
theorem lifted (os : Os) (started : os.Started) (H : Type) (enc : TypeId × Value → H) :
    ReturnsInHanded {} Try.checked os 8 .any (Rows.irSoundsSpec.pre6 enc Try.prog Try.f8 Rows.irSoundsRow.domain false) (Rows.irSoundsSpec.post enc Try.prog Try.f8 false true false false) := by
  refine returnsInHanded_of_change_sized (C := Try.checked) own started (by kernel_rfl) Try.func8
    (ChangeSpec.witness6 (enc := enc) (C := Try.checked) false ⟨#[], #[.agg #[.int .i64 0, .int .i64 0, .int .i64 0, .slice none 0 0, .int .i64 0, .int .i64 0, .slice none 0 0], .slice none 0 0, .int .u8 0, .int .u8 0, .int .u8 0, .int .i64 0, .agg #[.int .u8 0, .int .i64 0, .int .i64 0, .int .i64 0]], []⟩ 8 (by kernel_rfl) (by kernel_rfl) (by kernel_rfl) (by kernel_rfl)) ?_
  intro W base args ds gs before hval0 hW hcnd hsz0 _
  have hval : ∀ (j : Nat) t v, Try.f8.params[j]? = some t → args[j]? = some v → Value.okWide Try.prog W .any base t v := hval0
  have hW' := hW
  obtain ⟨p, q, hA0, hV, rfl, hfz, hnd⟩ := hW
  have hA : DataW.TrodAll enc Try.prog W 0 (fun _ => true) true Try.f8.params.toList args.toList ds p := hA0
  rw [Try.params8] at hA hval
  obtain ⟨v0, vs0, d0, ds0, p0, q0, hargs, rfl, rfl, h0, r0⟩ := trodAll_cons hA
  obtain ⟨v1, vs1, d1, ds1, p1, q1, rfl, rfl, rfl, h1, r1⟩ := trodAll_cons r0
  obtain ⟨v2, vs2, d2, ds2, p2, q2, rfl, rfl, rfl, h2, r2⟩ := trodAll_cons r1
  obtain ⟨v3, vs3, d3, ds3, p3, q3, rfl, rfl, rfl, h3, r3⟩ := trodAll_cons r2
  obtain ⟨v4, vs4, d4, ds4, p4, q4, rfl, rfl, rfl, h4, r4⟩ := trodAll_cons r3
  obtain ⟨v5, vs5, d5, ds5, p5, q5, rfl, rfl, rfl, h5, r5⟩ := trodAll_cons r4
  obtain ⟨v6, vs6, d6, ds6, p6, q6, rfl, rfl, rfl, h6, r6⟩ := trodAll_cons r5
  obtain ⟨rfl, rfl, rfl⟩ := trodAll_nil r6
  obtain rfl : args = #[v0, v1, v2, v3, v4, v5, v6] := by cases args; simp_all
  obtain ⟨rfl, rfl⟩ := trodVars_none hV
  obtain ⟨ar0, rfl, hs0⟩ := okWide_struct Try.underlying26 (hval 0 26 v0 rfl rfl)
  have k0 := h0
  have lt0 : ∀ x ∈ p0, x.block < W.heap.size := by obtain ⟨m, hm⟩ := k0; exact DataW.trod_lt m _ _ _ hm
  obtain ⟨x0, K0, w0⟩ := opn_arg opn26 h0
  obtain ⟨u0_0, t0_0, g0_0, e0_0, ⟨u0_1, t0_1, g0_1, e0_1, ⟨u0_2, t0_2, g0_2, e0_2, ⟨u0_3, t0_3, g0_3, ⟨A0_3, c0_3, e0_3, hc0_3, hr0_3⟩, ⟨u0_4, t0_4, g0_4, e0_4, ⟨u0_5, t0_5, g0_5, e0_5, ⟨A0_6, c0_6, e0_6, hc0_6, hr0_6⟩⟩⟩⟩⟩⟩⟩ := K0
  replace e0_6 : t0_5 = _ := e0_6
  subst e0_6
  replace e0_5 : u0_5 = _ := e0_5
  subst e0_5
  replace g0_5 : t0_4 = _ := g0_5
  subst g0_5
  replace e0_4 : u0_4 = _ := e0_4
  subst e0_4
  replace g0_4 : t0_3 = _ := g0_4
  subst g0_4
  replace e0_3 : u0_3 = _ := e0_3
  subst e0_3
  replace g0_3 : t0_2 = _ := g0_3
  subst g0_3
  replace e0_2 : u0_2 = _ := e0_2
  subst e0_2
  replace g0_2 : t0_1 = _ := g0_2
  subst g0_2
  replace e0_1 : u0_1 = _ := e0_1
  subst e0_1
  replace g0_1 : t0_0 = _ := g0_1
  subst g0_1
  replace e0_0 : u0_0 = _ := e0_0
  subst e0_0
  obtain rfl : ar0 = #[.int .i64 x0.f0, .int .i64 x0.f1, .int .i64 x0.f2, .slice A0_3 x0.f3.length c0_3, .int .i64 x0.f4, .int .i64 x0.f5, .slice A0_6 x0.f6.length c0_6] := by
    apply Array.toList_inj.1
    simpa [Value.cells] using g0_0
  obtain ⟨A1, n1, c1, rfl⟩ := okWide_slice Try.underlying22 (hval 1 22 v1 rfl rfl)
  have k1 := h1
  have lt1 : ∀ x ∈ p1, x.block < W.heap.size := by obtain ⟨m, hm⟩ := k1; exact DataW.trod_lt m _ _ _ hm
  obtain ⟨l1, rfl, hc1, hr1, w1⟩ := opn_arg_slice (opn_slice Try.underlying22 (by kernel_rfl) (opn_slice Try.underlying52 (by kernel_rfl) (opn_int Try.underlying5))) h1
  obtain ⟨a2, rfl, rfl, rfl, w2⟩ := open_int Try.underlying5 (hval 2 5 v2 rfl rfl) h2
  obtain ⟨a3, rfl, rfl, rfl, w3⟩ := open_int Try.underlying5 (hval 3 5 v3 rfl rfl) h3
  obtain ⟨a4, rfl, rfl, rfl, w4⟩ := open_int Try.underlying5 (hval 4 5 v4 rfl rfl) h4
  obtain ⟨a5, rfl, rfl, rfl, w5⟩ := open_int Try.underlying3 (hval 5 3 v5 rfl rfl) h5
  obtain ⟨ar6, rfl, hs6⟩ := okWide_struct Try.underlying30 (hval 6 30 v6 rfl rfl)
  have k6 := h6
  have lt6 : ∀ x ∈ p6, x.block < W.heap.size := by obtain ⟨m, hm⟩ := k6; exact DataW.trod_lt m _ _ _ hm
  obtain ⟨x6, K6, w6⟩ := opn_arg opn30 h6
  obtain ⟨u6_0, t6_0, g6_0, e6_0, ⟨u6_1, t6_1, g6_1, e6_1, ⟨u6_2, t6_2, g6_2, e6_2, e6_3⟩⟩⟩ := K6
  replace e6_3 : t6_2 = _ := e6_3
  subst e6_3
  replace e6_2 : u6_2 = _ := e6_2
  subst e6_2
  replace g6_2 : t6_1 = _ := g6_2
  subst g6_2
  replace e6_1 : u6_1 = _ := e6_1
  subst e6_1
  replace g6_1 : t6_0 = _ := g6_1
  subst g6_1
  replace e6_0 : u6_0 = _ := e6_0
  subst e6_0
  obtain rfl : ar6 = #[.int .u8 x6.f0, .int .i64 x6.f1, .int .i64 x6.f2, .int .i64 x6.f3] := by
    apply Array.toList_inj.1
    simpa [Value.cells] using g6_0
  clear hA0 hval0
  obtain ⟨k, hp⟩ := Pure.IrSounds x0 l1 a2 a3 a4 a5 x6 w0 w1 w2 w3 w4 w5 w6
  refine (P.interlocklaw02_IrSounds.calls k x0.f0 x0.f1 x0.f2 A0_3 c0_3 x0.f3 x0.f4 x0.f5 A0_6 c0_6 x0.f6 A1 c1 l1 a2 a3 a4 a5 x6.f0 x6.f1 x6.f2 x6.f3 true W hr0_3 hc0_3 hr0_6 hc0_6 hr1 hc1 hp).mono fun e W' he => ?_
  obtain ⟨rfl, hb⟩ := he
  have bel : Below W.heap.size W W' := hb
  exact ⟨_, rfl, _, _, _, [], _, [], hW', trodAll_mk1 (shut_bool Try.underlying4 _), (trodAll_cons_mk (Below.trod laidOut (by kernel_rfl) (of_decide_eq_true (by kernel_rfl)) k0 bel lt0) (trodAll_cons_mk (Below.trod laidOut (by kernel_rfl) (of_decide_eq_true (by kernel_rfl)) k1 bel lt1) (trodAll_cons_mk (shut_int Try.underlying5 w2) (trodAll_cons_mk (shut_int Try.underlying5 w3) (trodAll_cons_mk (shut_int Try.underlying5 w4) (trodAll_cons_mk (shut_int Try.underlying3 w5) (trodAll_cons_mk (Below.trod laidOut (by kernel_rfl) (of_decide_eq_true (by kernel_rfl)) k6 bel lt6) trodAll_mk0))))))), rfl, bel.frame _, fun h => by cases h⟩
theorem proved : Rows.IrSoundsSaid :=
  OpenClaim.holds_of_wide 8 Try.f8 rfl rfl rfl rfl rfl rfl rfl ⟨rfl, rfl, rfl, rfl, rfl⟩ rfl rfl rfl rfl rfl (by kernel_rfl) Try.func8 (by kernel_rfl)
    (of_decide_eq_true (by kernel_rfl)) (by unfold Func.isWrapper; first | (rw [if_pos (by decide +kernel)]; kernel_rfl) | (rw [if_neg (by decide +kernel)]; exact ⟨rfl, rfl⟩))
    (fun os started H enc _ => lifted os started H enc)
#print axioms proved
end Go.Proofs.Ytkkhjfkgfmodnaa.irSounds
namespace Go.Proofs.Ytkkhjfkgfmodnaa
/-- The row, under a short name, for the claim. -/
theorem irSounds_holds : Rows.IrSoundsSaid := irSounds.proved
end Go.Proofs.Ytkkhjfkgfmodnaa
