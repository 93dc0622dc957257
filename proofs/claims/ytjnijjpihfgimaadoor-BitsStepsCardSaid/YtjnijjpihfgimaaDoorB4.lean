import Derived.Test.YtjnijjpihfgimaaDoorB3
import Derived.Test.YtjnijjpihfgimaaDoorPop
namespace Go.Proofs.YtjnijjpihfgimaaDoor.Th
set_option linter.unusedVariables false
open Go Go.RowKit Go.Proofs.YtjnijjpihfgimaaDoor.P Go.Proofs.YtjnijjpihfgimaaDoor.Pl Go.Proofs.YtjnijjpihfgimaaDoorW.PrintWords Go.Proofs.YtjnijjpihfgimaaDoorW.PrintLast Go.Proofs.YtjnijjpihfgimaaDoorW.PrintMore
theorem andc (a c : Nat) (ha : a < 18446744073709551616) (hc : c < 18446744073709551616) : Go.bits .and .u64 (a : Int) (c : Int) = ((a &&& c : Nat) : Int) := and_nat a c ha hc
theorem and127 (a : Nat) (ha : a < 9223372036854775808) : Go.bits .and .i64 (a : Int) 127 = ((a % 128 : Nat) : Int) := by
  have h2 : (BitVec.ofInt 64 (a : Int)).toNat = a := bv_nat a (by omega)
  have h3 : (BitVec.ofInt 64 (127 : Int)).toNat = 127 := by decide
  show IntKind.i64.wrap ((BitVec.ofInt 64 (a : Int) &&& BitVec.ofInt 64 (127 : Int)).toNat : Int) = _
  rw [BitVec.toNat_and, h2, h3, show 127 = 2 ^ 7 - 1 from rfl, Nat.and_two_pow_sub_one_eq_mod]
  have : a % 2 ^ 7 < 128 := Nat.mod_lt _ (by decide)
  simp [IntKind.wrap, IntKind.signed, IntKind.bits]
  omega
theorem wrap_i64_mod (x : Nat) (hx : x < 18446744073709551616) : Go.bits .and .i64 (wrap64 (x : Int)) 127 = ((x % 128 : Nat) : Int) := by
  have h2 : (BitVec.ofInt 64 (wrap64 (x : Int))).toNat = x := by
    rw [BitVec.toNat_ofInt]
    unfold wrap64
    omega
  have h3 : (BitVec.ofInt 64 (127 : Int)).toNat = 127 := by decide
  show IntKind.i64.wrap ((BitVec.ofInt 64 (wrap64 (x : Int)) &&& BitVec.ofInt 64 (127 : Int)).toNat : Int) = _
  rw [BitVec.toNat_and, h2, h3, show 127 = 2 ^ 7 - 1 from rfl, Nat.and_two_pow_sub_one_eq_mod]
  have : x % 2 ^ 7 < 128 := Nat.mod_lt _ (by decide)
  simp [IntKind.wrap, IntKind.signed, IntKind.bits]
  omega
set_option maxHeartbeats 1000000 in
theorem count_f (s : Nat) (hs : s < 18446744073709551616) : bits_Count.f (s : Int) = some ((It.nints s).length : Int) := by
  obtain ⟨x1, x2, x3, h1, h2, h3, l1, l2, l3, l4, l5, l6, h7⟩ := pop s hs
  have k1 : x1 / 4 < 18446744073709551616 := Nat.lt_of_le_of_lt (Nat.div_le_self _ _) l1
  have k0 : s / 2 < 18446744073709551616 := Nat.lt_of_le_of_lt (Nat.div_le_self _ _) hs
  have e1 : IntKind.u64.wrap ((Go.bits .and .u64 ((s : Int) / 2) 6148914691236517205) + (Go.bits .and .u64 (s : Int) 6148914691236517205)) = (x1 : Int) := by
    have a1 := andc (s / 2) 6148914691236517205 k0 (by decide)
    have a2 := andc s 6148914691236517205 hs (by decide)
    have q : ((s / 2 &&& 6148914691236517205 : Nat) : Int) + ((s &&& 6148914691236517205 : Nat) : Int) = (x1 : Int) := by rw [← h1]; rfl
    rw [← u64id l1, ← q, ← a1, ← a2]; rfl
  have e2 : IntKind.u64.wrap ((Go.bits .and .u64 ((x1 : Int) / 4) 3689348814741910323) + (Go.bits .and .u64 (x1 : Int) 3689348814741910323)) = (x2 : Int) := by
    have a1 := andc (x1 / 4) 3689348814741910323 k1 (by decide)
    have a2 := andc x1 3689348814741910323 l1 (by decide)
    have q : ((x1 / 4 &&& 3689348814741910323 : Nat) : Int) + ((x1 &&& 3689348814741910323 : Nat) : Int) = (x2 : Int) := by rw [← h2]; rfl
    rw [← u64id l2, ← q, ← a1, ← a2]; rfl
  have e3 : Go.bits .and .u64 (IntKind.u64.wrap ((x2 : Int) / 16 + (x2 : Int))) 1085102592571150095 = (x3 : Int) := by
    have a1 := andc (x2 / 16 + x2) 1085102592571150095 l3 (by decide)
    have a2 : IntKind.u64.wrap ((x2 : Int) / 16 + (x2 : Int)) = ((x2 / 16 + x2 : Nat) : Int) := u64id l3
    rw [a2, ← h3]; exact a1
  have e4 : IntKind.u64.wrap ((x3 : Int) + (x3 : Int) / 256) = ((x3 + x3 / 256 : Nat) : Int) := u64id l4
  generalize x3 + x3 / 256 = y at e4 l5 l6 h7
  have e5 : IntKind.u64.wrap ((y : Int) + (y : Int) / 65536) = ((y + y / 65536 : Nat) : Int) := u64id l5
  generalize y + y / 65536 = z at e5 l6 h7
  have e6 : IntKind.u64.wrap ((z : Int) + (z : Int) / 4294967296) = ((z + z / 4294967296 : Nat) : Int) := u64id l6
  unfold bits_Count.f bits_OnesCount64.f
  rw [e1, e2, e3, e4, e5, e6, wrap_i64_mod _ l6, h7, Option.bind_some]
  unfold It.nints
  rw [List.length_map]
end Go.Proofs.YtjnijjpihfgimaaDoor.Th
