import Derived.Test.YtkkhjfkgfmodnaaSIrOnce
import Derived.Test.YtkkhjfkgfmodnaaIA
namespace Go.Proofs.Ytkkhjfkgfmodnaa.Pure
open Go Go.RowKit Go.Proofs.Ytkkhjfkgfmodnaa.P Go.Proofs.Ytkkhjfkgfmodnaa.Opn Go.Proofs.YtkkhjfkgfmodnaaW.PrintWords Go.Proofs.YtkkhjfkgfmodnaaW.PrintLast Go.Proofs.YtkkhjfkgfmodnaaW.PrintMore
theorem once_nat (a b : Nat) (ha : a ≤ 255) (hb : b ≤ 255) : interlocklaw02_IrOnce.f 6 (a : Int) (b : Int) = some true := by
  unfold interlocklaw02_IrOnce.f
  rw [name_f (a := (a : Int)) (by omega) (by omega), name_f (a := (b : Int)) (by omega) (by omega), plain_f (a := (a : Int)) (by omega) (by omega), acquire_f (a := (a : Int)) (by omega) (by omega), release_f (a := (a : Int)) (by omega) (by omega), known_6]
  simp only [Option.bind_some, Go.ByteArray.toList_eq, if_true]
  by_cases h : a < 28
  · obtain ⟨h1, h2, h3⟩ := name_ok h
    have d1 : decide ((a : Int) > 27) = false := decide_eq_false (by omega)
    have d2 : ¬ ((a : Int) > 27) := by omega
    have hz : (if (shpAt (a : Int)).p = true then if (shpAt (a : Int)).q = true then some false else some (!(shpAt (a : Int)).r) else some true) = some true := by
      by_cases hp : (shpAt (a : Int)).p = true
      · obtain ⟨e1, e2⟩ := h3 hp
        rw [if_pos hp, e1, e2]; rfl
      · rw [if_neg hp]
    rw [h1, d1, if_pos (by rfl), if_pos h2, if_neg d2, hz]
    by_cases hb2 : b < 28
    · rw [if_neg (by omega), if_pos (by rw [name_ne h hb2]; simp)]
    · rw [if_pos (by omega)]
  · have e := shp_out (n := a) (by omega)
    rw [e]
    have d1 : decide ((a : Int) > 27) = true := decide_eq_true (by omega)
    have d2 : (a : Int) > 27 := by omega
    rw [d1, if_pos (by rfl), if_pos (by decide), if_pos d2]
    rfl
theorem IrOnce : Stmt.IrOnce := by
  intro a0 a1 h0 h1
  obtain ⟨p0, p1⟩ := u8_range h0
  obtain ⟨q0, q1⟩ := u8_range h1
  refine ⟨6, ?_⟩
  have := once_nat a0.toNat a1.toNat (by omega) (by omega)
  rw [Int.toNat_of_nonneg p0, Int.toNat_of_nonneg q0] at this
  exact this
end Go.Proofs.Ytkkhjfkgfmodnaa.Pure
