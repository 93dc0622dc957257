/-
  No cell of these rows narrows 'for every input' (looked for: loops, veiled, ifaces, maps, wideKeys, modest, calm, conditions, laid).
  DERIVED. THE GIVEN ROWS OF THIS SEAT. 5 by the template 'for every input the law returns true; each argument reads behind the call as it read before'; 0 by the template 'total and deterministic' (their statements: YticdodbnjlnjlaaTotals.lean).
  GIVEN WITH THE SEED: the statements are not yours to turn. If you find one false, say at which input.
  Laid BY PROGRAM, IN A SANDBOX (cutbox-rows.mjs): the forced cells as the released guide's own fill.sh prints them over the translation e55e2fc09df5d291… (all of the seat's roots in one cut). By AI agents, Wed Nov 11 2026. No macro, syntax, notation, axiom, sorry.
-/
import Derived.Test.YticdodbnjlnjlaaChecked
import GoSem.Claim
import GoSem.ClaimJoined
import GoSem.ClaimMapViews
import Derived.JoinedTies
import Derived.KernelRfl
namespace Go.Proofs.Yticdodbnjlnjlaa
/- THE CELL 'sum', in the pinned program and in every row, IS THE sha256 OF THE DUMP (.gsa) THAT YticdodbnjlnjlaaProg.lean LOADS. Nothing in Lean hashes anything: it is a label: what it is worth is what the hold of that sum in a sandbox is worth. -/
noncomputable def Try.pinned : Pinned := { name := "yticdodbnjlnjlaa", sum := "e55e2fc09df5d2915fcd0138bb3ed127dfc8907b4d8ec409f0e5f7d47ecd1b22", checked := Try.checked }
namespace Rows
def none {H : Type} : Left H := { results := [], args := [] }

/-- 'interlocklaw19.SwapDone': WHATEVER THE INPUT: true; the input reads as it did. -/
def swapDoneSpec : ChangeSpec := { name := "swapDone", fn := fun _ => fun
  | [d1, d2] => { results := [.lit (.bool true)], args := [d1, d2] }
  | _ => none }
def swapDoneRow : OpenClaim := { program := "yticdodbnjlnjlaa", sum := "e55e2fc09df5d2915fcd0138bb3ed127dfc8907b4d8ec409f0e5f7d47ecd1b22", func := "interlock/interlocklaw19.SwapDone", spec := "swapDone", unfollowed := true, recurses := true, apart := false }
def SwapDoneSaid : Prop := swapDoneRow.holds Try.pinned (OpenSpec.ofChange swapDoneSpec)

/-- ITS FALSE NEIGHBOUR: 'it returns false'. Refute it at one input. -/
def swapDoneWrong : ChangeSpec := { name := "swapDone", fn := fun _ => fun
  | [d1, d2] => { results := [.lit (.bool false)], args := [d1, d2] }
  | _ => none }
def SwapDoneWrongFalsely : Prop := swapDoneRow.holds Try.pinned (OpenSpec.ofChange swapDoneWrong)

/-- 'interlocklaw19.SwapCode': WHATEVER THE INPUT: true; the input reads as it did. -/
def swapCodeSpec : ChangeSpec := { name := "swapCode", fn := fun _ => fun
  | [d1, d2, d3] => { results := [.lit (.bool true)], args := [d1, d2, d3] }
  | _ => none }
def swapCodeRow : OpenClaim := { program := "yticdodbnjlnjlaa", sum := "e55e2fc09df5d2915fcd0138bb3ed127dfc8907b4d8ec409f0e5f7d47ecd1b22", func := "interlock/interlocklaw19.SwapCode", spec := "swapCode", unfollowed := true, recurses := true, apart := false }
def SwapCodeSaid : Prop := swapCodeRow.holds Try.pinned (OpenSpec.ofChange swapCodeSpec)

/-- ITS FALSE NEIGHBOUR: 'it returns false'. Refute it at one input. -/
def swapCodeWrong : ChangeSpec := { name := "swapCode", fn := fun _ => fun
  | [d1, d2, d3] => { results := [.lit (.bool false)], args := [d1, d2, d3] }
  | _ => none }
def SwapCodeWrongFalsely : Prop := swapCodeRow.holds Try.pinned (OpenSpec.ofChange swapCodeWrong)

/-- 'interlocklaw19.SwapApart': WHATEVER THE INPUT: true; the input reads as it did. -/
def swapApartSpec : ChangeSpec := { name := "swapApart", fn := fun _ => fun
  | [d1, d2, d3, d4, d5, d6] => { results := [.lit (.bool true)], args := [d1, d2, d3, d4, d5, d6] }
  | _ => none }
def swapApartRow : OpenClaim := { program := "yticdodbnjlnjlaa", sum := "e55e2fc09df5d2915fcd0138bb3ed127dfc8907b4d8ec409f0e5f7d47ecd1b22", func := "interlock/interlocklaw19.SwapApart", spec := "swapApart", unfollowed := true, recurses := true, apart := false }
def SwapApartSaid : Prop := swapApartRow.holds Try.pinned (OpenSpec.ofChange swapApartSpec)

/-- ITS FALSE NEIGHBOUR: 'it returns false'. Refute it at one input. -/
def swapApartWrong : ChangeSpec := { name := "swapApart", fn := fun _ => fun
  | [d1, d2, d3, d4, d5, d6] => { results := [.lit (.bool false)], args := [d1, d2, d3, d4, d5, d6] }
  | _ => none }
def SwapApartWrongFalsely : Prop := swapApartRow.holds Try.pinned (OpenSpec.ofChange swapApartWrong)

/-- 'interlocklaw19.SwapMoves': WHATEVER THE INPUT: true; the input reads as it did. -/
def swapMovesSpec : ChangeSpec := { name := "swapMoves", fn := fun _ => fun
  | [d1, d2] => { results := [.lit (.bool true)], args := [d1, d2] }
  | _ => none }
def swapMovesRow : OpenClaim := { program := "yticdodbnjlnjlaa", sum := "e55e2fc09df5d2915fcd0138bb3ed127dfc8907b4d8ec409f0e5f7d47ecd1b22", func := "interlock/interlocklaw19.SwapMoves", spec := "swapMoves", unfollowed := true, recurses := true, apart := false }
def SwapMovesSaid : Prop := swapMovesRow.holds Try.pinned (OpenSpec.ofChange swapMovesSpec)

/-- ITS FALSE NEIGHBOUR: 'it returns false'. Refute it at one input. -/
def swapMovesWrong : ChangeSpec := { name := "swapMoves", fn := fun _ => fun
  | [d1, d2] => { results := [.lit (.bool false)], args := [d1, d2] }
  | _ => none }
def SwapMovesWrongFalsely : Prop := swapMovesRow.holds Try.pinned (OpenSpec.ofChange swapMovesWrong)

/-- 'interlocklaw19.SwapAlone': WHATEVER THE INPUT: true; the input reads as it did. -/
def swapAloneSpec : ChangeSpec := { name := "swapAlone", fn := fun _ => fun
  | [d] => { results := [.lit (.bool true)], args := [d] }
  | _ => none }
def swapAloneRow : OpenClaim := { program := "yticdodbnjlnjlaa", sum := "e55e2fc09df5d2915fcd0138bb3ed127dfc8907b4d8ec409f0e5f7d47ecd1b22", func := "interlock/interlocklaw19.SwapAlone", spec := "swapAlone", unfollowed := true, recurses := true, apart := false }
def SwapAloneSaid : Prop := swapAloneRow.holds Try.pinned (OpenSpec.ofChange swapAloneSpec)

/-- ITS FALSE NEIGHBOUR: 'it returns false'. Refute it at one input. -/
def swapAloneWrong : ChangeSpec := { name := "swapAlone", fn := fun _ => fun
  | [d] => { results := [.lit (.bool false)], args := [d] }
  | _ => none }
def SwapAloneWrongFalsely : Prop := swapAloneRow.holds Try.pinned (OpenSpec.ofChange swapAloneWrong)

/- THE SECOND FORM. 'bulk': how many values and letters a reading holds, each counted each time it is reached (what is shared counts as often as it is met; a slice's spare places count too). A statement '..UptoSaid' is the law's where the arguments, and the package variables that the reading takes, are together of bulk at most 1048576: NARROWER than '..Said'. Prove '..Said' where nothing that the law and all that it calls make is longer than what came in: it says more and counts as full. Else prove '..UptoSaid'. A law counts once. -/
mutual
def uptoBulk {H : Type} : DataW H → Nat
  | .lit (.string bytes) => bytes.length + 1
  | .lit _ => 1
  | .nil => 1
  | .ptr d => uptoBulk d + 1
  | .slice elems spare => uptoBulkAll elems + uptoBulkAll spare + 1
  | .agg parts => uptoBulkAll parts + 1
  | .iface _ d => uptoBulk d + 1
  | .map entries => uptoBulkEntries entries + 1
  | .held _ => 1
def uptoBulkAll {H : Type} : List (DataW H) → Nat
  | [] => 0
  | d :: r => uptoBulk d + uptoBulkAll r
def uptoBulkEntries {H : Type} : List (Lit × DataW H) → Nat
  | [] => 0
  | x :: r => uptoBulkEntry x + uptoBulkEntries r
def uptoBulkEntry {H : Type} : Lit × DataW H → Nat
  | (.string bytes, d) => bytes.length + uptoBulk d + 1
  | (_, d) => uptoBulk d + 1
 end
def uptoSmall : (H : Type) → List (DataW H) → Bool := fun _ ds => decide (uptoBulkAll ds ≤ 1048576)
def OpenSpec.upto (s : _root_.Go.ChangeSpec) : _root_.Go.OpenSpec := { _root_.Go.OpenSpec.ofChange s with cond := some uptoSmall }

/-- 'interlocklaw19.SwapDone', WHERE WHAT IT READS IS OF BULK AT MOST 1048576: true; the input reads as it did. -/
def swapDoneUptoRow : OpenClaim := { program := "yticdodbnjlnjlaa", sum := "e55e2fc09df5d2915fcd0138bb3ed127dfc8907b4d8ec409f0e5f7d47ecd1b22", func := "interlock/interlocklaw19.SwapDone", spec := "swapDone", unfollowed := true, recurses := true, apart := false, narrowed := true }
def SwapDoneUptoSaid : Prop := swapDoneUptoRow.holds Try.pinned (OpenSpec.upto swapDoneSpec)

/-- 'interlocklaw19.SwapCode', WHERE WHAT IT READS IS OF BULK AT MOST 1048576: true; the input reads as it did. -/
def swapCodeUptoRow : OpenClaim := { program := "yticdodbnjlnjlaa", sum := "e55e2fc09df5d2915fcd0138bb3ed127dfc8907b4d8ec409f0e5f7d47ecd1b22", func := "interlock/interlocklaw19.SwapCode", spec := "swapCode", unfollowed := true, recurses := true, apart := false, narrowed := true }
def SwapCodeUptoSaid : Prop := swapCodeUptoRow.holds Try.pinned (OpenSpec.upto swapCodeSpec)

/-- 'interlocklaw19.SwapApart', WHERE WHAT IT READS IS OF BULK AT MOST 1048576: true; the input reads as it did. -/
def swapApartUptoRow : OpenClaim := { program := "yticdodbnjlnjlaa", sum := "e55e2fc09df5d2915fcd0138bb3ed127dfc8907b4d8ec409f0e5f7d47ecd1b22", func := "interlock/interlocklaw19.SwapApart", spec := "swapApart", unfollowed := true, recurses := true, apart := false, narrowed := true }
def SwapApartUptoSaid : Prop := swapApartUptoRow.holds Try.pinned (OpenSpec.upto swapApartSpec)

/-- 'interlocklaw19.SwapMoves', WHERE WHAT IT READS IS OF BULK AT MOST 1048576: true; the input reads as it did. -/
def swapMovesUptoRow : OpenClaim := { program := "yticdodbnjlnjlaa", sum := "e55e2fc09df5d2915fcd0138bb3ed127dfc8907b4d8ec409f0e5f7d47ecd1b22", func := "interlock/interlocklaw19.SwapMoves", spec := "swapMoves", unfollowed := true, recurses := true, apart := false, narrowed := true }
def SwapMovesUptoSaid : Prop := swapMovesUptoRow.holds Try.pinned (OpenSpec.upto swapMovesSpec)

/-- 'interlocklaw19.SwapAlone', WHERE WHAT IT READS IS OF BULK AT MOST 1048576: true; the input reads as it did. -/
def swapAloneUptoRow : OpenClaim := { program := "yticdodbnjlnjlaa", sum := "e55e2fc09df5d2915fcd0138bb3ed127dfc8907b4d8ec409f0e5f7d47ecd1b22", func := "interlock/interlocklaw19.SwapAlone", spec := "swapAlone", unfollowed := true, recurses := true, apart := false, narrowed := true }
def SwapAloneUptoSaid : Prop := swapAloneUptoRow.holds Try.pinned (OpenSpec.upto swapAloneSpec)

end Rows
end Go.Proofs.Yticdodbnjlnjlaa
