/-
  NARROWER THAN 'FOR EVERY INPUT', by the rows' own cells (each row's printed sentence says how): LoopBacks: laid · LoopOf: laid · LoopInto: laid · LoopFree: laid · LoopTwo: laid.
  DERIVED. THE GIVEN ROWS OF THIS SEAT. 5 by the template 'for every input the law returns true; each argument reads behind the call as it read before'; 0 by the template 'total and deterministic' (their statements: YtbnkeddnibjncaaDoorTotals.lean).
  GIVEN WITH THE SEED: the statements are not yours to turn. If you find one false, say at which input.
  Laid BY PROGRAM, IN A SANDBOX (cutbox-rows.mjs): the forced cells as the released guide's own fill.sh prints them over the translation 922b4c09856d0aec… (all of the seat's roots in one cut). By AI agents, Wed Nov 11 2026. No macro, syntax, notation, axiom, sorry.
-/
import Derived.Test.YtbnkeddnibjncaaDoorChecked
import GoSem.Claim
import GoSem.ClaimJoined
import GoSem.ClaimMapViews
import Derived.JoinedTies
import Derived.KernelRfl
namespace Go.Proofs.YtbnkeddnibjncaaDoor
/- THE CELL 'sum', in the pinned program and in every row, IS THE sha256 OF THE DUMP (.gsa) THAT YtbnkeddnibjncaaDoorProg.lean LOADS. Nothing in Lean hashes anything: it is a label: what it is worth is what the hold of that sum in a sandbox is worth. -/
noncomputable def Tryd.pinned : Pinned := { name := "ytbnkeddnibjncaadoor", sum := "922b4c09856d0aecf1b5bd8775cc6302c90626a33f176422bd9d62c72605f28b", checked := Tryd.checked }
namespace Rows
def none {H : Type} : Left H := { results := [], args := [] }

/- WHAT THE LISTED PACKAGE-LEVEL VARIABLES READ AS WHEN THE CALL BEGINS. Each datum BY PROGRAM (the guide's laid-datum.mjs) off the statement by which the dump's own 'gosem.cut.vars' lays the variable. In a bare row this is a premise. The card (YtbnkeddnibjncaaDoorCards.lean) ties it to the program's text. -/
def laid_math_bits_deBruijn64tab {H : Type} : DataW H := .agg [.lit (.int .u8 0), .lit (.int .u8 1), .lit (.int .u8 56), .lit (.int .u8 2), .lit (.int .u8 57), .lit (.int .u8 49), .lit (.int .u8 28), .lit (.int .u8 3), .lit (.int .u8 61), .lit (.int .u8 58), .lit (.int .u8 42), .lit (.int .u8 50), .lit (.int .u8 38), .lit (.int .u8 29), .lit (.int .u8 17), .lit (.int .u8 4), .lit (.int .u8 62), .lit (.int .u8 47), .lit (.int .u8 59), .lit (.int .u8 36), .lit (.int .u8 45), .lit (.int .u8 43), .lit (.int .u8 51), .lit (.int .u8 22), .lit (.int .u8 53), .lit (.int .u8 39), .lit (.int .u8 33), .lit (.int .u8 30), .lit (.int .u8 24), .lit (.int .u8 18), .lit (.int .u8 12), .lit (.int .u8 5), .lit (.int .u8 63), .lit (.int .u8 55), .lit (.int .u8 48), .lit (.int .u8 27), .lit (.int .u8 60), .lit (.int .u8 41), .lit (.int .u8 37), .lit (.int .u8 16), .lit (.int .u8 46), .lit (.int .u8 35), .lit (.int .u8 44), .lit (.int .u8 21), .lit (.int .u8 52), .lit (.int .u8 32), .lit (.int .u8 23), .lit (.int .u8 11), .lit (.int .u8 54), .lit (.int .u8 26), .lit (.int .u8 40), .lit (.int .u8 15), .lit (.int .u8 34), .lit (.int .u8 20), .lit (.int .u8 31), .lit (.int .u8 10), .lit (.int .u8 25), .lit (.int .u8 14), .lit (.int .u8 19), .lit (.int .u8 9), .lit (.int .u8 13), .lit (.int .u8 8), .lit (.int .u8 7), .lit (.int .u8 6)]

/-- 'interlocklaw12.LoopBacks': WHATEVER THE INPUT: true; the input reads as it did. -/
def loopBacksSpec : ChangeSpec := { name := "loopBacks", fn := fun _ => fun
  | [d1, d2] => { results := [.lit (.bool true)], args := [d1, d2] }
  | _ => none }
def loopBacksRow : OpenClaim := { program := "ytbnkeddnibjncaadoor", sum := "922b4c09856d0aecf1b5bd8775cc6302c90626a33f176422bd9d62c72605f28b", func := "interlock/interlocklaw12.LoopBacks", spec := "loopBacks", unfollowed := true, recurses := true, named := ["math/bits.deBruijn64tab"], apart := false, laid := [("math/bits.deBruijn64tab", laid_math_bits_deBruijn64tab)] }
def LoopBacksSaid : Prop := loopBacksRow.holds Tryd.pinned (OpenSpec.ofChange loopBacksSpec)

/-- ITS FALSE NEIGHBOUR: 'it returns false'. Refute it at one input. -/
def loopBacksWrong : ChangeSpec := { name := "loopBacks", fn := fun _ => fun
  | [d1, d2] => { results := [.lit (.bool false)], args := [d1, d2] }
  | _ => none }
def LoopBacksWrongFalsely : Prop := loopBacksRow.holds Tryd.pinned (OpenSpec.ofChange loopBacksWrong)

/-- 'interlocklaw12.LoopOf': WHATEVER THE INPUT: true; the input reads as it did. -/
def loopOfSpec : ChangeSpec := { name := "loopOf", fn := fun _ => fun
  | [d1, d2, d3, d4] => { results := [.lit (.bool true)], args := [d1, d2, d3, d4] }
  | _ => none }
def loopOfRow : OpenClaim := { program := "ytbnkeddnibjncaadoor", sum := "922b4c09856d0aecf1b5bd8775cc6302c90626a33f176422bd9d62c72605f28b", func := "interlock/interlocklaw12.LoopOf", spec := "loopOf", unfollowed := true, recurses := true, named := ["math/bits.deBruijn64tab"], apart := false, laid := [("math/bits.deBruijn64tab", laid_math_bits_deBruijn64tab)] }
def LoopOfSaid : Prop := loopOfRow.holds Tryd.pinned (OpenSpec.ofChange loopOfSpec)

/-- ITS FALSE NEIGHBOUR: 'it returns false'. Refute it at one input. -/
def loopOfWrong : ChangeSpec := { name := "loopOf", fn := fun _ => fun
  | [d1, d2, d3, d4] => { results := [.lit (.bool false)], args := [d1, d2, d3, d4] }
  | _ => none }
def LoopOfWrongFalsely : Prop := loopOfRow.holds Tryd.pinned (OpenSpec.ofChange loopOfWrong)

/-- 'interlocklaw12.LoopInto': WHATEVER THE INPUT: true; the input reads as it did. -/
def loopIntoSpec : ChangeSpec := { name := "loopInto", fn := fun _ => fun
  | [d1, d2] => { results := [.lit (.bool true)], args := [d1, d2] }
  | _ => none }
def loopIntoRow : OpenClaim := { program := "ytbnkeddnibjncaadoor", sum := "922b4c09856d0aecf1b5bd8775cc6302c90626a33f176422bd9d62c72605f28b", func := "interlock/interlocklaw12.LoopInto", spec := "loopInto", unfollowed := true, recurses := true, named := ["math/bits.deBruijn64tab"], apart := false, laid := [("math/bits.deBruijn64tab", laid_math_bits_deBruijn64tab)] }
def LoopIntoSaid : Prop := loopIntoRow.holds Tryd.pinned (OpenSpec.ofChange loopIntoSpec)

/-- ITS FALSE NEIGHBOUR: 'it returns false'. Refute it at one input. -/
def loopIntoWrong : ChangeSpec := { name := "loopInto", fn := fun _ => fun
  | [d1, d2] => { results := [.lit (.bool false)], args := [d1, d2] }
  | _ => none }
def LoopIntoWrongFalsely : Prop := loopIntoRow.holds Tryd.pinned (OpenSpec.ofChange loopIntoWrong)

/-- 'interlocklaw12.LoopFree': WHATEVER THE INPUT: true; the input reads as it did. -/
def loopFreeSpec : ChangeSpec := { name := "loopFree", fn := fun _ => fun
  | [d1, d2] => { results := [.lit (.bool true)], args := [d1, d2] }
  | _ => none }
def loopFreeRow : OpenClaim := { program := "ytbnkeddnibjncaadoor", sum := "922b4c09856d0aecf1b5bd8775cc6302c90626a33f176422bd9d62c72605f28b", func := "interlock/interlocklaw12.LoopFree", spec := "loopFree", unfollowed := true, recurses := true, named := ["math/bits.deBruijn64tab"], apart := false, laid := [("math/bits.deBruijn64tab", laid_math_bits_deBruijn64tab)] }
def LoopFreeSaid : Prop := loopFreeRow.holds Tryd.pinned (OpenSpec.ofChange loopFreeSpec)

/-- ITS FALSE NEIGHBOUR: 'it returns false'. Refute it at one input. -/
def loopFreeWrong : ChangeSpec := { name := "loopFree", fn := fun _ => fun
  | [d1, d2] => { results := [.lit (.bool false)], args := [d1, d2] }
  | _ => none }
def LoopFreeWrongFalsely : Prop := loopFreeRow.holds Tryd.pinned (OpenSpec.ofChange loopFreeWrong)

/-- 'interlocklaw12.LoopTwo': WHATEVER THE INPUT: true; the input reads as it did. -/
def loopTwoSpec : ChangeSpec := { name := "loopTwo", fn := fun _ => fun
  | [d1, d2] => { results := [.lit (.bool true)], args := [d1, d2] }
  | _ => none }
def loopTwoRow : OpenClaim := { program := "ytbnkeddnibjncaadoor", sum := "922b4c09856d0aecf1b5bd8775cc6302c90626a33f176422bd9d62c72605f28b", func := "interlock/interlocklaw12.LoopTwo", spec := "loopTwo", unfollowed := true, recurses := true, named := ["math/bits.deBruijn64tab"], apart := false, laid := [("math/bits.deBruijn64tab", laid_math_bits_deBruijn64tab)] }
def LoopTwoSaid : Prop := loopTwoRow.holds Tryd.pinned (OpenSpec.ofChange loopTwoSpec)

/-- ITS FALSE NEIGHBOUR: 'it returns false'. Refute it at one input. -/
def loopTwoWrong : ChangeSpec := { name := "loopTwo", fn := fun _ => fun
  | [d1, d2] => { results := [.lit (.bool false)], args := [d1, d2] }
  | _ => none }
def LoopTwoWrongFalsely : Prop := loopTwoRow.holds Tryd.pinned (OpenSpec.ofChange loopTwoWrong)

/- THE SECOND FORM. 'bulk': how many values and letters a reading holds, each counted each time it is reached (what is shared counts as often as it is met; a slice's spare places count too). A statement '..UptoSaid' is the law's where the arguments, and the package variables that the reading takes, are together of bulk at most 1048576: NARROWER than '..Said'. Prove '..Said' where nothing that the law and all that it calls make is longer than what came in: it says more and counts as full. Else prove '..UptoSaid'. A law counts once. -/
mutual
def uptoBulk {H : Type} : DataW H → Nat
  | .lit (.string bytes) => bytes.length + 1
  | .lit _ => 1
  | .nil => 1
  | .ptr d => uptoBulk d + 1
  | .slice elems spare => uptoBulkAll elems + uptoBulkAll spare + 1
  | .agg parts => uptoBulkAll parts + 1
  | .iface _ d => uptoBulk d + 1
  | .map entries => uptoBulkEntries entries + 1
  | .held _ => 1
def uptoBulkAll {H : Type} : List (DataW H) → Nat
  | [] => 0
  | d :: r => uptoBulk d + uptoBulkAll r
def uptoBulkEntries {H : Type} : List (Lit × DataW H) → Nat
  | [] => 0
  | x :: r => uptoBulkEntry x + uptoBulkEntries r
def uptoBulkEntry {H : Type} : Lit × DataW H → Nat
  | (.string bytes, d) => bytes.length + uptoBulk d + 1
  | (_, d) => uptoBulk d + 1
 end
def uptoSmall : (H : Type) → List (DataW H) → Bool := fun _ ds => decide (uptoBulkAll ds ≤ 1048576)
def OpenSpec.upto (s : _root_.Go.ChangeSpec) : _root_.Go.OpenSpec := { _root_.Go.OpenSpec.ofChange s with cond := some uptoSmall }

/-- 'interlocklaw12.LoopBacks', WHERE WHAT IT READS IS OF BULK AT MOST 1048576: true; the input reads as it did. -/
def loopBacksUptoRow : OpenClaim := { program := "ytbnkeddnibjncaadoor", sum := "922b4c09856d0aecf1b5bd8775cc6302c90626a33f176422bd9d62c72605f28b", func := "interlock/interlocklaw12.LoopBacks", spec := "loopBacks", unfollowed := true, recurses := true, named := ["math/bits.deBruijn64tab"], apart := false, laid := [("math/bits.deBruijn64tab", laid_math_bits_deBruijn64tab)], narrowed := true }
def LoopBacksUptoSaid : Prop := loopBacksUptoRow.holds Tryd.pinned (OpenSpec.upto loopBacksSpec)

/-- 'interlocklaw12.LoopOf', WHERE WHAT IT READS IS OF BULK AT MOST 1048576: true; the input reads as it did. -/
def loopOfUptoRow : OpenClaim := { program := "ytbnkeddnibjncaadoor", sum := "922b4c09856d0aecf1b5bd8775cc6302c90626a33f176422bd9d62c72605f28b", func := "interlock/interlocklaw12.LoopOf", spec := "loopOf", unfollowed := true, recurses := true, named := ["math/bits.deBruijn64tab"], apart := false, laid := [("math/bits.deBruijn64tab", laid_math_bits_deBruijn64tab)], narrowed := true }
def LoopOfUptoSaid : Prop := loopOfUptoRow.holds Tryd.pinned (OpenSpec.upto loopOfSpec)

/-- 'interlocklaw12.LoopInto', WHERE WHAT IT READS IS OF BULK AT MOST 1048576: true; the input reads as it did. -/
def loopIntoUptoRow : OpenClaim := { program := "ytbnkeddnibjncaadoor", sum := "922b4c09856d0aecf1b5bd8775cc6302c90626a33f176422bd9d62c72605f28b", func := "interlock/interlocklaw12.LoopInto", spec := "loopInto", unfollowed := true, recurses := true, named := ["math/bits.deBruijn64tab"], apart := false, laid := [("math/bits.deBruijn64tab", laid_math_bits_deBruijn64tab)], narrowed := true }
def LoopIntoUptoSaid : Prop := loopIntoUptoRow.holds Tryd.pinned (OpenSpec.upto loopIntoSpec)

/-- 'interlocklaw12.LoopFree', WHERE WHAT IT READS IS OF BULK AT MOST 1048576: true; the input reads as it did. -/
def loopFreeUptoRow : OpenClaim := { program := "ytbnkeddnibjncaadoor", sum := "922b4c09856d0aecf1b5bd8775cc6302c90626a33f176422bd9d62c72605f28b", func := "interlock/interlocklaw12.LoopFree", spec := "loopFree", unfollowed := true, recurses := true, named := ["math/bits.deBruijn64tab"], apart := false, laid := [("math/bits.deBruijn64tab", laid_math_bits_deBruijn64tab)], narrowed := true }
def LoopFreeUptoSaid : Prop := loopFreeUptoRow.holds Tryd.pinned (OpenSpec.upto loopFreeSpec)

/-- 'interlocklaw12.LoopTwo', WHERE WHAT IT READS IS OF BULK AT MOST 1048576: true; the input reads as it did. -/
def loopTwoUptoRow : OpenClaim := { program := "ytbnkeddnibjncaadoor", sum := "922b4c09856d0aecf1b5bd8775cc6302c90626a33f176422bd9d62c72605f28b", func := "interlock/interlocklaw12.LoopTwo", spec := "loopTwo", unfollowed := true, recurses := true, named := ["math/bits.deBruijn64tab"], apart := false, laid := [("math/bits.deBruijn64tab", laid_math_bits_deBruijn64tab)], narrowed := true }
def LoopTwoUptoSaid : Prop := loopTwoUptoRow.holds Tryd.pinned (OpenSpec.upto loopTwoSpec)

end Rows
end Go.Proofs.YtbnkeddnibjncaaDoor
