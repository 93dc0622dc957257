import Derived.Test.YtjnijjpihfgimaaDoorB4
import Derived.Test.YtjnijjpihfgimaaDoorPx5
import Derived.OpenShut
namespace Go.Proofs.YtjnijjpihfgimaaDoor.Th
set_option linter.unusedVariables false
open Go Go.RowKit Go.Proofs.YtjnijjpihfgimaaDoor.P Go.Proofs.YtjnijjpihfgimaaDoor.Pl Go.Proofs.YtjnijjpihfgimaaDoorW.PrintWords Go.Proofs.YtjnijjpihfgimaaDoorW.PrintLast Go.Proofs.YtjnijjpihfgimaaDoorW.PrintMore
theorem known_ev : Ev (fun k => interlocklaw01_known.f k) true := Ev.of interlocklaw01_known.mono (k := 10) (by kernel_rfl)
theorem set_of {x : Int} (h : (Lit.int .u64 x).wf = true) : ∃ s : Nat, x = s ∧ s < 18446744073709551616 := by
  obtain ⟨h0, h1⟩ := bounds_u64 h
  obtain ⟨n, rfl⟩ := Int.eq_ofNat_of_zero_le h0
  exact ⟨n, rfl, by omega⟩
theorem byte_of {x : Int} (h : (Lit.int .u8 x).wf = true) : ∃ s : Nat, x = s ∧ s < 256 := by
  obtain ⟨h0, h1⟩ := bounds_u8 h
  obtain ⟨n, rfl⟩ := Int.eq_ofNat_of_zero_le h0
  exact ⟨n, rfl, by omega⟩
theorem modw (n m : Nat) (hm : 0 < m) (h : m ≤ 256) : wrap64 (Int.tmod (n : Int) (m : Int)) = ((n % m : Nat) : Int) := by
  rw [tmod_nat]
  have := Nat.mod_lt n hm
  exact w64 (by omega) (by omega)
theorem mod64 (n : Nat) : wrap64 (Int.tmod (n : Int) 64) = ((n % 64 : Nat) : Int) := modw n 64 (by decide) (by decide)
theorem mod65 (n : Nat) : wrap64 (Int.tmod (n : Int) 65) = ((n % 65 : Nat) : Int) := modw n 65 (by decide) (by decide)
theorem mod66 (n : Nat) : wrap64 (Int.tmod (n : Int) 66) = ((n % 66 : Nat) : Int) := modw n 66 (by decide) (by decide)
theorem mod70 (n : Nat) : wrap64 (Int.tmod (n : Int) 70) = ((n % 70 : Nat) : Int) := modw n 70 (by decide) (by decide)
theorem ev_if {g : Nat → Option Bool} {b : Bool} (hb : b = true) (h : Ev g true) : Ev (fun k => if b = true then g k else some false) true := Ev.congr (fun k => if_pos hb) h
theorem ev_eq {g : Nat → Option Bool} {α : Type} [DecidableEq α] {x y : α} (hb : x = y) (h : Ev g true) : Ev (fun k => if x = y then g k else some false) true := Ev.congr (fun k => if_pos hb) h
/-! The numbers. -/
theorem nints_bit (s j : Nat) (hj : j < 64) : (It.nints s).contains (j : Int) = s.testBit j := by
  unfold It.nints
  rw [Bool.eq_iff_iff, List.contains_iff_mem, List.mem_map]
  constructor
  · rintro ⟨i, hi, e⟩
    obtain rfl : i = j := by omega
    exact ((mem_bnums s i).1 hi).2
  · intro h
    exact ⟨j, (mem_bnums s j).2 ⟨hj, h⟩, rfl⟩
theorem with_nints (s : Nat) (hs : s < 18446744073709551616) : withN 0 (It.nints s) = s :=
  set_ext' (with_lt _ _ (by decide)) hs (fun i hi => by rw [with_bit _ _ _ hi, nints_bit _ _ hi, Nat.zero_testBit, Bool.false_or])
theorem without_nints (s : Nat) (hs : s < 18446744073709551616) : withoutN s (It.nints s) = 0 :=
  set_ext' (without_lt _ _ hs) (by decide) (fun i hi => by rw [without_bit _ _ _ hs hi, nints_bit _ _ hi, Nat.zero_testBit]; cases s.testBit i <;> rfl)
theorem count_all : ∀ n : Nat, n < 65 → (It.nints (allN n)).length = n := by decide +kernel
end Go.Proofs.YtjnijjpihfgimaaDoor.Th
