import Derived.Test.YtkkhjfkgfmodnaaSIrFinds
import Derived.Test.YtkkhjfkgfmodnaaIA
namespace Go.Proofs.Ytkkhjfkgfmodnaa.Pure
open Go Go.RowKit Go.Proofs.Ytkkhjfkgfmodnaa.P Go.Proofs.Ytkkhjfkgfmodnaa.Opn Go.Proofs.YtkkhjfkgfmodnaaW.PrintWords Go.Proofs.YtkkhjfkgfmodnaaW.PrintLast Go.Proofs.YtkkhjfkgfmodnaaW.PrintMore
def refNames : List ByteArray := interlockref02_Names.f.getD []
theorem refNames_f : interlockref02_Names.f = some refNames := rfl
theorem refNames_all : ((List.range 28).all fun i => (refNames.getD i ByteArray.empty).data.toList == (shpTab.getD i Shp.zero).nm) = true := by kernel_rfl
theorem refName_at {i : Nat} (hi : i < 28) : (rdOf ByteArray.empty refNames (i : Int)).toList = (shpTab.getD i Shp.zero).nm := by
  rw [Go.ByteArray.toList_eq]
  show (refNames.getD (i : Int).toNat ByteArray.empty).data.toList = _
  rw [Int.toNat_natCast]
  exact eq_of_beq (List.all_eq_true.1 refNames_all i (List.mem_range.2 hi))
theorem find_keep {a : ByteArray} {n i : Nat} (h : findN a n = some i) : ∀ m, findN a (n + m) = some i
  | 0 => h
  | m + 1 => by
    show (match findN a (n + m) with | some i => some i | none => _) = _
    rw [find_keep h m]
theorem find_ref (a : ByteArray) : ∀ d i : Nat, i + d = 28 → findN a i = none → interlockref02_Find.l0 (d + 1) a refNames (i : Int) = ir_Find.f a
  | 0, i, h, hn => by
    obtain rfl : i = 28 := by omega
    unfold interlockref02_Find.l0 ir_Find.f
    rw [hn]; rfl
  | d + 1, i, h, hn => by
    unfold interlockref02_Find.l0
    have hl : refNames.length = 28 := rfl
    rw [if_pos (by rw [hl]; omega), if_pos (by omega), refName_at (by omega), Go.ByteArray.toList_eq]
    by_cases e : (shpTab.getD i Shp.zero).nm = a.data.toList
    · rw [if_pos e]
      have h2 := find_keep (findN_some hn e) d
      rw [show i + 1 + d = 28 by omega] at h2
      unfold ir_Find.f
      rw [h2]
      show some ((i : Int) % 256, true) = some ((i : Int), true)
      rw [Int.emod_eq_of_lt (by omega) (by omega)]
    · rw [if_neg e]
      have h2 := find_ref a d (i + 1) (by omega) (findN_none hn e)
      rw [show wrap64 ((i : Int) + 1) = ((i + 1 : Nat) : Int) by unfold wrap64; omega]
      exact h2
theorem find_self : ((List.range 28).all fun r => findN ⟨(shpTab.getD r Shp.zero).nm.toArray⟩ 28 == some r) = true := by kernel_rfl
theorem find_own {r : Nat} (hr : r < 28) : ir_Find.f ⟨(shpAt (r : Int)).nm.toArray⟩ = some ((r : Int), true) := by
  unfold ir_Find.f shpAt
  rw [Int.toNat_natCast, eq_of_beq (List.all_eq_true.1 find_self r (List.mem_range.2 hr))]
theorem finds_j0 (a : ByteArray) (x : Int) (hx : 0 ≤ x ∧ x ≤ 255) : interlocklaw02_IrFinds.j0 30 a x false = some true := by
  rw [interlocklaw02_IrFinds.j0, if_neg (by decide)]
  have h1 : interlockref02_Find.f 29 a = ir_Find.f a := by
    unfold interlockref02_Find.f
    rw [refNames_f]
    exact find_ref a 28 0 rfl rfl
  rw [h1]
  have h2 : 0 ≤ Int.tmod x 28 ∧ Int.tmod x 28 < 28 := ⟨Int.tmod_nonneg _ hx.1, Int.tmod_lt_of_pos x (by omega)⟩
  obtain ⟨r, hr⟩ : ∃ r : Nat, Int.tmod x 28 = (r : Int) := ⟨(Int.tmod x 28).toNat, by omega⟩
  rw [hr] at h2 ⊢
  rw [name_f (a := (r : Int)) (by omega) (by omega)]
  obtain ⟨q, hq⟩ : ∃ q, ir_Find.f a = some q := ⟨_, rfl⟩
  rw [hq]
  simp only [Option.bind_some]
  rw [find_own (by omega)]
  simp
theorem finds_k {k : Nat} : interlocklaw02_known.f (6 + k) = some true := by
  induction k with
  | zero => exact known_6
  | succ k ih => exact interlocklaw02_known.mono (6 + k) _ ih
theorem IrFinds : Stmt.IrFinds := by
  intro a0 a1 h0 h1
  have p := u8_range h1
  refine ⟨30, ?_⟩
  unfold interlocklaw02_IrFinds.f
  split
  · rw [interlocklaw02_IrFinds.j0, if_pos rfl, show interlocklaw02_known.f 29 = some true from finds_k (k := 23)]; rfl
  · rw [show interlocklaw02_known.f 30 = some true from finds_k (k := 24)]
    exact finds_j0 a0 a1 p
end Go.Proofs.Ytkkhjfkgfmodnaa.Pure
