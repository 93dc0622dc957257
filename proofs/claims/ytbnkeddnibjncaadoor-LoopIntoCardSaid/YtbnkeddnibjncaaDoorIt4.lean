import Derived.Test.YtbnkeddnibjncaaDoorIt3
namespace Go.Proofs.YtbnkeddnibjncaaDoor.It
set_option linter.unusedVariables false
open Go Go.RowKit Go.Shelf Go.Proofs.YtbnkeddnibjncaaDoorW.PrintWords Go.Proofs.YtbnkeddnibjncaaDoor.Pl
set_option maxHeartbeats 1000000 in
theorem collect_any (n0 b s0 : Nat) (hs0 : s0 < 18446744073709551616) (w : World) (hT : TabOk w) (hb : n0 ≤ b) (hpos : 0 < n0) (hbx : Boxed w b 33 (.int .u64 s0)) :
    Calls Tryd.prog 39 #[.func (.func 44) #[] #[.pointer (some ⟨b, 0, none⟩)]] w fun e w' => ∃ v, e = .returned v ∧ w'.ownsRow n0 3 1 v (nints s0).length ((nints s0).map (Value.int .i64)) ∧ Below n0 w w' := by
  have hc := Aside0.mk (appendSeq_any n0 b s0 hs0 w hT hb hpos hbx)
  clear hbx
  generalize nints s0 = xs at hc ⊢
  go_enter Tryd.func39, Tryd.ntmps39
  go_wp2_with (go_at_call 43; refine hc.out.mono ?_; rintro e w' ⟨v, rfl, hr, hB⟩; have HR := Aside0.mk hr; clear hr; have HB := Aside0.mk hB; clear hB)
  go_ret
  exact ⟨_, rfl, HR.out, HB.out⟩
set_option maxHeartbeats 1000000 in
theorem list_any (s0 : Nat) (hs0 : s0 < 18446744073709551616) (w : World) (hT : TabOk w) :
    Calls Tryd.prog 24 #[.int .u64 s0] w fun e w' => ∃ v0_ : Value, e = .returned (v0_) ∧ Kd.R (Kd.int .i64) 3 w' w.heap.size (fun _ => True) v0_ (nints s0) ∧ Below w.heap.size w w' := by
  have hc := Aside0.mk (collect_any w.heap.size w.heap.size s0 hs0 (w.alloc (.cells #[.int .u64 s0] 33)) (hT.below (below_alloc (Below.refl _ _) _)) (Nat.le_refl _) hT.lt (Boxed.new w _ _))
  generalize nints s0 = xs at hc ⊢
  go_enter Tryd.func24, Tryd.ntmps24
  go_wp2_with (first | (go_at_call 40; refine (each_any _ _).mono ?_; rintro e w' ⟨rfl, rfl⟩) | (go_at_call 39; refine hc.out.mono ?_; rintro e w' ⟨v, rfl, hr, hB⟩; have HR := Aside0.mk hr; clear hr; have HB := Aside0.mk hB; clear hB))
  go_ret
  refine ⟨_, rfl, Kd.R_of_own (enc := Value.int .i64) HR.out (fun _ _ => trivial), (below_alloc (Below.refl _ _) _).trans HB.out⟩
theorem tab_of {W : World} (h : ∀ j, j < 64 → W.cell? ⟨0, j, none⟩ = some (.int .u8 ((Lib.deBruijn64tab.map (fun n : Nat => (n : Int))).getD j 0))) : TabOk W := by
  intro j hj
  rw [h j hj]
  have hl : j < Lib.deBruijn64tab.length := hj
  simp [List.getD, hl]
end Go.Proofs.YtbnkeddnibjncaaDoor.It
