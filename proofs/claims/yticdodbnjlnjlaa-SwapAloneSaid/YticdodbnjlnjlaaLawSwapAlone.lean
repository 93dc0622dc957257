/- SwapAlone: one thread alone, whatever bytes choose its instructions, tells the same, ends the same and takes as many picks when those that may have changed places, unless its run is cut; its own run has no race. The numbers are of their kinds, nothing else is asked. -/
import Derived.Test.YticdodbnjlnjlaaRows
import Derived.Test.YticdodbnjlnjlaaOpn
import Derived.Test.YticdodbnjlnjlaaAX
import Derived.Test.YticdodbnjlnjlaaVs
import Derived.WalkKit
import Derived.ProofKit
import Derived.OpenShut
import Derived.ShutString
import Derived.ChangeOld
import Derived.Below
import Derived.SizedLaws
namespace Go.Proofs.Yticdodbnjlnjlaa.Th
open Go Go.RowKit Go.Proofs.Yticdodbnjlnjlaa.P Go.Proofs.YticdodbnjlnjlaaW.PrintWords Go.Proofs.YticdodbnjlnjlaaW.PrintLast Go.Proofs.YticdodbnjlnjlaaW.PrintMore
set_option maxRecDepth 100000 in
theorem known_16 : interlocklaw19_known.f 16 = some true := by kernel_rfl
theorem alone_calls (A0 : Option Addr) (c0 : Nat) (l : List Int) (w : World) (hr0 : Kd.C (Kd.int .u8) w A0 l.length l) (hc0 : l.length ≤ c0) (hw : l.length ≤ 9223372036854775807 ∧ ∀ x ∈ l, (Lit.int .u8 x).wf = true) :
    Calls Try.prog 7 #[.slice A0 l.length c0] w (fun e w' => e = .returned (.bool true) ∧ Below w.heap.size w w') := by
  obtain ⟨c, hA, hl, k1, h1⟩ := make1_ok l hw.1 (fun x hx => by
    have h := hw.2 x hx
    have m1 : IntKind.u8.min = 0 := rfl
    have m2 : IntKind.u8.max = 255 := rfl
    simp [Lit.wf, m1, m2] at h
    exact ⟨by omega, by omega⟩)
  obtain ⟨res, hr, k2, h2⟩ := code_ev c (fun x hx => by have := (hA x hx).o; exact ⟨this.1, by omega⟩) (by omega)
  obtain ⟨k3, h3⟩ := (Ev.of interlocklaw19_known.mono (k := 16) known_16 : Ev (fun k => interlocklaw19_known.f k) true)
  exact alone_any (max k1 (max k2 k3)) A0 c0 l c res.1 res.2 w hr0 hc0 (h1 _ (by omega)) (h2 _ (by omega)) (h3 _ (by omega)) (alo_of hA (by omega) hr)
end Go.Proofs.Yticdodbnjlnjlaa.Th
namespace Go.Proofs.Yticdodbnjlnjlaa.swapAlone
open Go Go.ChangeShapes Go.WideShapes Go.ChangeAt Go.RowKit Go.Proofs.Yticdodbnjlnjlaa.Opn
open Go.ChangeMaps (open_string shut_string)
set_option linter.unusedVariables false
theorem own : ownKnob Try.prog.godebug = none := by kernel_rfl
theorem laidOut : laidOutB Try.prog = true := by kernel_rfl
set_option maxRecDepth 100000 in
theorem lifted (os : Os) (started : os.Started) (H : Type) (enc : TypeId × Value → H) :
    ReturnsInHanded {} Try.checked os 7 .any (Rows.swapAloneSpec.pre6 enc Try.prog Try.f7 Rows.swapAloneRow.domain false) (Rows.swapAloneSpec.post enc Try.prog Try.f7 false true false false) := by
  refine returnsInHanded_of_change_sized (C := Try.checked) own started (by kernel_rfl) Try.func7
    (ChangeSpec.witness6 (enc := enc) (C := Try.checked) false ⟨#[], #[.slice none 0 0], []⟩ 8 (by kernel_rfl) (by kernel_rfl) (by kernel_rfl) (by kernel_rfl)) ?_
  intro W base args ds gs before hval0 hW hcnd hsz0 _
  have hval : ∀ (j : Nat) t v, Try.f7.params[j]? = some t → args[j]? = some v → Value.okWide Try.prog W .any base t v := hval0
  have hW' := hW
  obtain ⟨p, q, hA0, hV, rfl, hfz, hnd⟩ := hW
  have hA : DataW.TrodAll enc Try.prog W 0 (fun _ => true) true Try.f7.params.toList args.toList ds p := hA0
  rw [Try.params7] at hA hval
  obtain ⟨v0, vs0, d0, ds0, p0, q0, hargs, rfl, rfl, h0, r0⟩ := trodAll_cons hA
  obtain ⟨rfl, rfl, rfl⟩ := trodAll_nil r0
  obtain rfl : args = #[v0] := by cases args; simp_all
  obtain ⟨rfl, rfl⟩ := trodVars_none hV
  obtain ⟨A0, n0, c0, rfl⟩ := okWide_slice Try.underlying43 (hval 0 43 v0 rfl rfl)
  have k0 := h0
  have lt0 : ∀ x ∈ p0, x.block < W.heap.size := by obtain ⟨m, hm⟩ := k0; exact DataW.trod_lt m _ _ _ hm
  obtain ⟨l0, rfl, hc0, hr0, w0⟩ := opn_arg_slice (opn_slice Try.underlying43 (by kernel_rfl) (opn_int Try.underlying5)) h0
  clear hA0 hval0
  refine (Th.alone_calls A0 c0 l0 W hr0 hc0 w0).mono fun e W' he => ?_
  obtain ⟨rfl, hb⟩ := he
  have bel : Below W.heap.size W W' := hb
  exact ⟨_, rfl, _, _, _, [], _, [], hW', trodAll_mk1 (shut_bool Try.underlying4 _), (trodAll_cons_mk (Below.trod laidOut (by kernel_rfl) (of_decide_eq_true (by kernel_rfl)) k0 bel lt0) trodAll_mk0), rfl, bel.frame _, fun h => by cases h⟩
theorem proved : Rows.SwapAloneSaid :=
  OpenClaim.holds_of_wide 7 Try.f7 rfl rfl rfl rfl rfl rfl rfl ⟨rfl, rfl, rfl, rfl, rfl⟩ rfl rfl rfl rfl rfl (by kernel_rfl) Try.func7 (by kernel_rfl)
    (of_decide_eq_true (by kernel_rfl)) (by unfold Func.isWrapper; first | (rw [if_pos (by decide +kernel)]; kernel_rfl) | (rw [if_neg (by decide +kernel)]; exact ⟨rfl, rfl⟩))
    (fun os started H enc _ => lifted os started H enc)
#print axioms proved
end Go.Proofs.Yticdodbnjlnjlaa.swapAlone
namespace Go.Proofs.Yticdodbnjlnjlaa
/-- The row, under a short name, for the claim. -/
theorem swapAlone_holds : Rows.SwapAloneSaid := swapAlone.proved
end Go.Proofs.Yticdodbnjlnjlaa
