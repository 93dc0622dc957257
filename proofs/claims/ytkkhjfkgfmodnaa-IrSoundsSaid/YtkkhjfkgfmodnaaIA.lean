import Derived.Test.YtkkhjfkgfmodnaaPx4
import Derived.Test.YtkkhjfkgfmodnaaOpnS
namespace Go.Proofs.Ytkkhjfkgfmodnaa.Pure
open Go Go.RowKit Go.Proofs.Ytkkhjfkgfmodnaa.P Go.Proofs.Ytkkhjfkgfmodnaa.Opn Go.Proofs.YtkkhjfkgfmodnaaW.PrintWords Go.Proofs.YtkkhjfkgfmodnaaW.PrintLast Go.Proofs.YtkkhjfkgfmodnaaW.PrintMore
set_option maxRecDepth 100000 in
theorem known_6 : interlocklaw02_known.f 6 = some true := by kernel_rfl
theorem u8_range {x : Int} (h : (Lit.int .u8 x).wf = true) : 0 ≤ x ∧ x ≤ 255 := by
  have m1 : IntKind.u8.min = 0 := rfl
  have m2 : IntKind.u8.max = 255 := rfl
  simp [Lit.wf, m1, m2] at h
  exact ⟨by omega, by omega⟩
theorem shp_out {n : Nat} (h : 28 ≤ n) : shpAt (n : Int) = Shp.zero := by
  unfold shpAt
  rw [Int.toNat_natCast, List.getD_eq_getElem?_getD, List.getElem?_eq_none (by have : shpTab.length = 28 := rfl; omega)]
  rfl
theorem names_part : ((List.range 28).all fun i => ((List.range 28).all fun j => ((shpTab.getD i Shp.zero).nm == (shpTab.getD j Shp.zero).nm) == (i == j))) = true := by kernel_rfl
theorem names_some : ((List.range 28).all fun i => !((shpTab.getD i Shp.zero).nm == ([] : List UInt8)) && decide ((shpTab.getD i Shp.zero).cnt 3 ≤ 3) && (!(shpTab.getD i Shp.zero).p || !(shpTab.getD i Shp.zero).q && !(shpTab.getD i Shp.zero).r)) = true := by kernel_rfl
theorem name_ne {i j : Nat} (hi : i < 28) (hj : j < 28) : ((shpAt i).nm == (shpAt j).nm) = ((i : Int) == (j : Int)) := by
  have h := List.all_eq_true.1 (List.all_eq_true.1 names_part i (List.mem_range.2 hi)) j (List.mem_range.2 hj)
  have h2 : ((shpTab.getD i Shp.zero).nm == (shpTab.getD j Shp.zero).nm) = (i == j) := eq_of_beq h
  unfold shpAt
  rw [Int.toNat_natCast, Int.toNat_natCast, h2]
  by_cases e : i = j
  · subst e; simp
  · rw [beq_eq_false_iff_ne.2 e, beq_eq_false_iff_ne.2 (by omega)]
theorem name_ok {i : Nat} (hi : i < 28) : ((shpAt i).nm == ([] : List UInt8)) = false ∧ (shpAt i).cnt 3 ≤ 3 ∧ ((shpAt i).p = true → (shpAt i).q = false ∧ (shpAt i).r = false) := by
  have h := List.all_eq_true.1 names_some i (List.mem_range.2 hi)
  have e : shpAt i = shpTab.getD i Shp.zero := by unfold shpAt; rw [Int.toNat_natCast]
  rw [e]
  simp only [Bool.and_eq_true, Bool.or_eq_true, Bool.not_eq_true', decide_eq_true_eq] at h
  refine ⟨h.1.1, h.1.2, fun hp => ?_⟩
  rcases h.2 with h2 | h2
  · rw [h2] at hp; cases hp
  · exact h2
theorem name_f {a : Int} (h0 : 0 ≤ a) (h1 : a ≤ 255) : ir_Name.f a = some (⟨(shpAt a).nm.toArray⟩, (shpAt a).cnt 3) := by
  unfold ir_Name.f; rw [if_pos h0, if_pos h1]
theorem plain_f {a : Int} (h0 : 0 ≤ a) (h1 : a ≤ 255) : ir_Plain.f a = some (shpAt a).p := by
  unfold ir_Plain.f; rw [if_pos h0, if_pos h1]
theorem acquire_f {a : Int} (h0 : 0 ≤ a) (h1 : a ≤ 255) : ir_Acquire.f a = some (shpAt a).q := by
  unfold ir_Acquire.f; rw [if_pos h0, if_pos h1]
theorem release_f {a : Int} (h0 : 0 ≤ a) (h1 : a ≤ 255) : ir_Release.f a = some (shpAt a).r := by
  unfold ir_Release.f; rw [if_pos h0, if_pos h1]
/-- Sound of one instruction that adds. -/
theorem sound_add (x y z : Int) : ir_Sound.f 0 0 0 ([] : List Int) 0 0 [[(⟨3, x, y, z⟩ : S30)]] = some (if ((0 ≤ x ∧ x < 4) ∧ (0 ≤ y ∧ y < 4)) ∧ (0 ≤ z ∧ z < 4) then 0 else 21) := by
  have e : ir_Sound.f 0 0 0 ([] : List Int) 0 0 [[(⟨3, x, y, z⟩ : S30)]] = some (insRes (lims 0 0 0 0 0 0 1 1) ⟨3, x, y, z⟩) := by
    unfold ir_Sound.f
    rw [if_pos (by rfl)]
    unfold soundRes
    rw [if_neg (by intro h; cases h), if_neg (by decide)]
    change some (if (if insRes (lims 0 0 0 0 0 0 1 1) (⟨3, x, y, z⟩ : S30) = 0 then (0 : Int) else insRes (lims 0 0 0 0 0 0 1 1) (⟨3, x, y, z⟩ : S30)) = 0 then (0 : Int) else (if insRes (lims 0 0 0 0 0 0 1 1) (⟨3, x, y, z⟩ : S30) = 0 then (0 : Int) else insRes (lims 0 0 0 0 0 0 1 1) (⟨3, x, y, z⟩ : S30))) = _
    generalize insRes (lims 0 0 0 0 0 0 1 1) (⟨3, x, y, z⟩ : S30) = q
    by_cases hq : q = 0
    · rw [hq]; rfl
    · rw [if_neg hq, if_neg hq]
  rw [e]
  congr 1
  show insBad _ true (⟨[97, 100, 100], 2, 3, 3, true, false, false⟩ : Shp) _ = _
  have h1 : any1 true (⟨[97, 100, 100], 2, 3, 3, true, false, false⟩ : Shp) (xyz x y z) 3 = false := by rfl
  unfold insBad
  rw [h1, if_neg (by decide)]
  simp [any2, bad2, Shp.w, xyz, lims, P.look]
  split <;> split <;> first | rfl | omega
theorem sound_nop (c : Int) : ir_Sound.f 0 0 0 ([] : List Int) 0 0 [[(⟨0, 0, 0, c⟩ : S30)]] = some (if c = 0 then 0 else 20) := by
  have e : ir_Sound.f 0 0 0 ([] : List Int) 0 0 [[(⟨0, 0, 0, c⟩ : S30)]] = some (insRes (lims 0 0 0 0 0 0 1 1) ⟨0, 0, 0, c⟩) := by
    unfold ir_Sound.f
    rw [if_pos (by rfl)]
    unfold soundRes
    rw [if_neg (by intro h; cases h), if_neg (by decide)]
    change some (if (if insRes (lims 0 0 0 0 0 0 1 1) (⟨0, 0, 0, c⟩ : S30) = 0 then (0 : Int) else insRes (lims 0 0 0 0 0 0 1 1) (⟨0, 0, 0, c⟩ : S30)) = 0 then (0 : Int) else (if insRes (lims 0 0 0 0 0 0 1 1) (⟨0, 0, 0, c⟩ : S30) = 0 then (0 : Int) else insRes (lims 0 0 0 0 0 0 1 1) (⟨0, 0, 0, c⟩ : S30))) = _
    generalize insRes (lims 0 0 0 0 0 0 1 1) (⟨0, 0, 0, c⟩ : S30) = q
    by_cases hq : q = 0
    · rw [hq]; rfl
    · rw [if_neg hq, if_neg hq]
  rw [e]
  congr 1
  show insBad _ true (⟨[110, 111, 112], 0, 0, 0, true, false, false⟩ : Shp) _ = _
  unfold insBad
  simp [any1, bad1, any2, bad2, Shp.w, xyz, lims, P.look]
end Go.Proofs.Ytkkhjfkgfmodnaa.Pure
