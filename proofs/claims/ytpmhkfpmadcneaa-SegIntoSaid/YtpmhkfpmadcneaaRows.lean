/-
  No cell of these rows narrows 'for every input' (looked for: loops, veiled, ifaces, maps, wideKeys, modest, calm, conditions, laid).
  DERIVED. THE GIVEN ROWS OF THIS SEAT. 4 by the template 'for every input the law returns true; each argument reads behind the call as it read before'; 0 by the template 'total and deterministic' (their statements: YtpmhkfpmadcneaaTotals.lean).
  GIVEN WITH THE SEED: the statements are not yours to turn. If you find one false, say at which input.
  Laid BY PROGRAM, IN A SANDBOX (cutbox-rows.mjs): the forced cells as the released guide's own fill.sh prints them over the translation 89a22b2d8f4c95e8… (all of the seat's roots in one cut). By AI agents, Wed Nov 11 2026. No macro, syntax, notation, axiom, sorry.
-/
import Derived.Test.YtpmhkfpmadcneaaChecked
import GoSem.Claim
import GoSem.ClaimJoined
import GoSem.ClaimMapViews
import Derived.JoinedTies
import Derived.KernelRfl
namespace Go.Proofs.Ytpmhkfpmadcneaa
/- THE CELL 'sum', in the pinned program and in every row, IS THE sha256 OF THE DUMP (.gsa) THAT YtpmhkfpmadcneaaProg.lean LOADS. Nothing in Lean hashes anything: it is a label: what it is worth is what the hold of that sum in a sandbox is worth. -/
noncomputable def Try.pinned : Pinned := { name := "ytpmhkfpmadcneaa", sum := "89a22b2d8f4c95e8cc3cc3ea66d70a4d647da623c69ef4b41bdc9a7730eec7a3", checked := Try.checked }
namespace Rows
def none {H : Type} : Left H := { results := [], args := [] }

/-- 'interlocklaw11.SegStraight': WHATEVER THE INPUT: true; the input reads as it did. -/
def segStraightSpec : ChangeSpec := { name := "segStraight", fn := fun _ => fun
  | [d1, d2] => { results := [.lit (.bool true)], args := [d1, d2] }
  | _ => none }
def segStraightRow : OpenClaim := { program := "ytpmhkfpmadcneaa", sum := "89a22b2d8f4c95e8cc3cc3ea66d70a4d647da623c69ef4b41bdc9a7730eec7a3", func := "interlock/interlocklaw11.SegStraight", spec := "segStraight", unfollowed := true, recurses := true, apart := false }
def SegStraightSaid : Prop := segStraightRow.holds Try.pinned (OpenSpec.ofChange segStraightSpec)

/-- ITS FALSE NEIGHBOUR: 'it returns false'. Refute it at one input. -/
def segStraightWrong : ChangeSpec := { name := "segStraight", fn := fun _ => fun
  | [d1, d2] => { results := [.lit (.bool false)], args := [d1, d2] }
  | _ => none }
def SegStraightWrongFalsely : Prop := segStraightRow.holds Try.pinned (OpenSpec.ofChange segStraightWrong)

/-- 'interlocklaw11.SegTells': WHATEVER THE INPUT: true; the input reads as it did. -/
def segTellsSpec : ChangeSpec := { name := "segTells", fn := fun _ => fun
  | [d1, d2, d3] => { results := [.lit (.bool true)], args := [d1, d2, d3] }
  | _ => none }
def segTellsRow : OpenClaim := { program := "ytpmhkfpmadcneaa", sum := "89a22b2d8f4c95e8cc3cc3ea66d70a4d647da623c69ef4b41bdc9a7730eec7a3", func := "interlock/interlocklaw11.SegTells", spec := "segTells", unfollowed := true, recurses := true, apart := false }
def SegTellsSaid : Prop := segTellsRow.holds Try.pinned (OpenSpec.ofChange segTellsSpec)

/-- ITS FALSE NEIGHBOUR: 'it returns false'. Refute it at one input. -/
def segTellsWrong : ChangeSpec := { name := "segTells", fn := fun _ => fun
  | [d1, d2, d3] => { results := [.lit (.bool false)], args := [d1, d2, d3] }
  | _ => none }
def SegTellsWrongFalsely : Prop := segTellsRow.holds Try.pinned (OpenSpec.ofChange segTellsWrong)

/-- 'interlocklaw11.SegWhole': WHATEVER THE INPUT: true; the input reads as it did. -/
def segWholeSpec : ChangeSpec := { name := "segWhole", fn := fun _ => fun
  | [d] => { results := [.lit (.bool true)], args := [d] }
  | _ => none }
def segWholeRow : OpenClaim := { program := "ytpmhkfpmadcneaa", sum := "89a22b2d8f4c95e8cc3cc3ea66d70a4d647da623c69ef4b41bdc9a7730eec7a3", func := "interlock/interlocklaw11.SegWhole", spec := "segWhole", unfollowed := true, recurses := true, apart := false }
def SegWholeSaid : Prop := segWholeRow.holds Try.pinned (OpenSpec.ofChange segWholeSpec)

/-- ITS FALSE NEIGHBOUR: 'it returns false'. Refute it at one input. -/
def segWholeWrong : ChangeSpec := { name := "segWhole", fn := fun _ => fun
  | [d] => { results := [.lit (.bool false)], args := [d] }
  | _ => none }
def SegWholeWrongFalsely : Prop := segWholeRow.holds Try.pinned (OpenSpec.ofChange segWholeWrong)

/-- 'interlocklaw11.SegInto': WHATEVER THE INPUT: true; the input reads as it did. -/
def segIntoSpec : ChangeSpec := { name := "segInto", fn := fun _ => fun
  | [d1, d2] => { results := [.lit (.bool true)], args := [d1, d2] }
  | _ => none }
def segIntoRow : OpenClaim := { program := "ytpmhkfpmadcneaa", sum := "89a22b2d8f4c95e8cc3cc3ea66d70a4d647da623c69ef4b41bdc9a7730eec7a3", func := "interlock/interlocklaw11.SegInto", spec := "segInto", unfollowed := true, recurses := true, apart := false }
def SegIntoSaid : Prop := segIntoRow.holds Try.pinned (OpenSpec.ofChange segIntoSpec)

/-- ITS FALSE NEIGHBOUR: 'it returns false'. Refute it at one input. -/
def segIntoWrong : ChangeSpec := { name := "segInto", fn := fun _ => fun
  | [d1, d2] => { results := [.lit (.bool false)], args := [d1, d2] }
  | _ => none }
def SegIntoWrongFalsely : Prop := segIntoRow.holds Try.pinned (OpenSpec.ofChange segIntoWrong)

/- THE SECOND FORM. 'bulk': how many values and letters a reading holds, each counted each time it is reached (what is shared counts as often as it is met; a slice's spare places count too). A statement '..UptoSaid' is the law's where the arguments, and the package variables that the reading takes, are together of bulk at most 1048576: NARROWER than '..Said'. Prove '..Said' where nothing that the law and all that it calls make is longer than what came in: it says more and counts as full. Else prove '..UptoSaid'. A law counts once. -/
mutual
def uptoBulk {H : Type} : DataW H → Nat
  | .lit (.string bytes) => bytes.length + 1
  | .lit _ => 1
  | .nil => 1
  | .ptr d => uptoBulk d + 1
  | .slice elems spare => uptoBulkAll elems + uptoBulkAll spare + 1
  | .agg parts => uptoBulkAll parts + 1
  | .iface _ d => uptoBulk d + 1
  | .map entries => uptoBulkEntries entries + 1
  | .held _ => 1
def uptoBulkAll {H : Type} : List (DataW H) → Nat
  | [] => 0
  | d :: r => uptoBulk d + uptoBulkAll r
def uptoBulkEntries {H : Type} : List (Lit × DataW H) → Nat
  | [] => 0
  | x :: r => uptoBulkEntry x + uptoBulkEntries r
def uptoBulkEntry {H : Type} : Lit × DataW H → Nat
  | (.string bytes, d) => bytes.length + uptoBulk d + 1
  | (_, d) => uptoBulk d + 1
 end
def uptoSmall : (H : Type) → List (DataW H) → Bool := fun _ ds => decide (uptoBulkAll ds ≤ 1048576)
def OpenSpec.upto (s : _root_.Go.ChangeSpec) : _root_.Go.OpenSpec := { _root_.Go.OpenSpec.ofChange s with cond := some uptoSmall }

/-- 'interlocklaw11.SegStraight', WHERE WHAT IT READS IS OF BULK AT MOST 1048576: true; the input reads as it did. -/
def segStraightUptoRow : OpenClaim := { program := "ytpmhkfpmadcneaa", sum := "89a22b2d8f4c95e8cc3cc3ea66d70a4d647da623c69ef4b41bdc9a7730eec7a3", func := "interlock/interlocklaw11.SegStraight", spec := "segStraight", unfollowed := true, recurses := true, apart := false, narrowed := true }
def SegStraightUptoSaid : Prop := segStraightUptoRow.holds Try.pinned (OpenSpec.upto segStraightSpec)

/-- 'interlocklaw11.SegTells', WHERE WHAT IT READS IS OF BULK AT MOST 1048576: true; the input reads as it did. -/
def segTellsUptoRow : OpenClaim := { program := "ytpmhkfpmadcneaa", sum := "89a22b2d8f4c95e8cc3cc3ea66d70a4d647da623c69ef4b41bdc9a7730eec7a3", func := "interlock/interlocklaw11.SegTells", spec := "segTells", unfollowed := true, recurses := true, apart := false, narrowed := true }
def SegTellsUptoSaid : Prop := segTellsUptoRow.holds Try.pinned (OpenSpec.upto segTellsSpec)

/-- 'interlocklaw11.SegWhole', WHERE WHAT IT READS IS OF BULK AT MOST 1048576: true; the input reads as it did. -/
def segWholeUptoRow : OpenClaim := { program := "ytpmhkfpmadcneaa", sum := "89a22b2d8f4c95e8cc3cc3ea66d70a4d647da623c69ef4b41bdc9a7730eec7a3", func := "interlock/interlocklaw11.SegWhole", spec := "segWhole", unfollowed := true, recurses := true, apart := false, narrowed := true }
def SegWholeUptoSaid : Prop := segWholeUptoRow.holds Try.pinned (OpenSpec.upto segWholeSpec)

/-- 'interlocklaw11.SegInto', WHERE WHAT IT READS IS OF BULK AT MOST 1048576: true; the input reads as it did. -/
def segIntoUptoRow : OpenClaim := { program := "ytpmhkfpmadcneaa", sum := "89a22b2d8f4c95e8cc3cc3ea66d70a4d647da623c69ef4b41bdc9a7730eec7a3", func := "interlock/interlocklaw11.SegInto", spec := "segInto", unfollowed := true, recurses := true, apart := false, narrowed := true }
def SegIntoUptoSaid : Prop := segIntoUptoRow.holds Try.pinned (OpenSpec.upto segIntoSpec)

end Rows
end Go.Proofs.Ytpmhkfpmadcneaa
