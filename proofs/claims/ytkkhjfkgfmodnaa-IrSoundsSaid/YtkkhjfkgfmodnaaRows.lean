/-
  No cell of these rows narrows 'for every input' (looked for: loops, veiled, ifaces, maps, wideKeys, modest, calm, conditions, laid).
  DERIVED. THE GIVEN ROWS OF THIS SEAT. 7 by the template 'for every input the law returns true; each argument reads behind the call as it read before'; 0 by the template 'total and deterministic' (their statements: YtkkhjfkgfmodnaaTotals.lean).
  GIVEN WITH THE SEED: the statements are not yours to turn. If you find one false, say at which input.
  Laid BY PROGRAM, IN A SANDBOX (cutbox-rows.mjs): the forced cells as the released guide's own fill.sh prints them over the translation 60f7e2e7eed9d32c… (all of the seat's roots in one cut). By AI agents, Wed Nov 11 2026. No macro, syntax, notation, axiom, sorry.
-/
import Derived.Test.YtkkhjfkgfmodnaaChecked
import GoSem.Claim
import GoSem.ClaimJoined
import GoSem.ClaimMapViews
import Derived.JoinedTies
import Derived.KernelRfl
namespace Go.Proofs.Ytkkhjfkgfmodnaa
/- THE CELL 'sum', in the pinned program and in every row, IS THE sha256 OF THE DUMP (.gsa) THAT YtkkhjfkgfmodnaaProg.lean LOADS. Nothing in Lean hashes anything: it is a label: what it is worth is what the hold of that sum in a sandbox is worth. -/
noncomputable def Try.pinned : Pinned := { name := "ytkkhjfkgfmodnaa", sum := "60f7e2e7eed9d32c0da77b87f12ca5a442cdc7fc76a699bc7bb21e32014793d6", checked := Try.checked }
namespace Rows
def none {H : Type} : Left H := { results := [], args := [] }

/-- 'interlocklaw02.IrPlaces': WHATEVER THE INPUT: true; the input reads as it did. -/
def irPlacesSpec : ChangeSpec := { name := "irPlaces", fn := fun _ => fun
  | [d1, d2, d3] => { results := [.lit (.bool true)], args := [d1, d2, d3] }
  | _ => none }
def irPlacesRow : OpenClaim := { program := "ytkkhjfkgfmodnaa", sum := "60f7e2e7eed9d32c0da77b87f12ca5a442cdc7fc76a699bc7bb21e32014793d6", func := "interlock/interlocklaw02.IrPlaces", spec := "irPlaces", unfollowed := true, recurses := true, apart := false }
def IrPlacesSaid : Prop := irPlacesRow.holds Try.pinned (OpenSpec.ofChange irPlacesSpec)

/-- ITS FALSE NEIGHBOUR: 'it returns false'. Refute it at one input. -/
def irPlacesWrong : ChangeSpec := { name := "irPlaces", fn := fun _ => fun
  | [d1, d2, d3] => { results := [.lit (.bool false)], args := [d1, d2, d3] }
  | _ => none }
def IrPlacesWrongFalsely : Prop := irPlacesRow.holds Try.pinned (OpenSpec.ofChange irPlacesWrong)

/-- 'interlocklaw02.IrRegs': WHATEVER THE INPUT: true; the input reads as it did. -/
def irRegsSpec : ChangeSpec := { name := "irRegs", fn := fun _ => fun
  | [d1, d2, d3] => { results := [.lit (.bool true)], args := [d1, d2, d3] }
  | _ => none }
def irRegsRow : OpenClaim := { program := "ytkkhjfkgfmodnaa", sum := "60f7e2e7eed9d32c0da77b87f12ca5a442cdc7fc76a699bc7bb21e32014793d6", func := "interlock/interlocklaw02.IrRegs", spec := "irRegs", unfollowed := true, recurses := true, apart := false }
def IrRegsSaid : Prop := irRegsRow.holds Try.pinned (OpenSpec.ofChange irRegsSpec)

/-- ITS FALSE NEIGHBOUR: 'it returns false'. Refute it at one input. -/
def irRegsWrong : ChangeSpec := { name := "irRegs", fn := fun _ => fun
  | [d1, d2, d3] => { results := [.lit (.bool false)], args := [d1, d2, d3] }
  | _ => none }
def IrRegsWrongFalsely : Prop := irRegsRow.holds Try.pinned (OpenSpec.ofChange irRegsWrong)

/-- 'interlocklaw02.IrMakes': WHATEVER THE INPUT: true; the input reads as it did. -/
def irMakesSpec : ChangeSpec := { name := "irMakes", fn := fun _ => fun
  | [d1, d2] => { results := [.lit (.bool true)], args := [d1, d2] }
  | _ => none }
def irMakesRow : OpenClaim := { program := "ytkkhjfkgfmodnaa", sum := "60f7e2e7eed9d32c0da77b87f12ca5a442cdc7fc76a699bc7bb21e32014793d6", func := "interlock/interlocklaw02.IrMakes", spec := "irMakes", unfollowed := true, recurses := true, apart := false }
def IrMakesSaid : Prop := irMakesRow.holds Try.pinned (OpenSpec.ofChange irMakesSpec)

/-- ITS FALSE NEIGHBOUR: 'it returns false'. Refute it at one input. -/
def irMakesWrong : ChangeSpec := { name := "irMakes", fn := fun _ => fun
  | [d1, d2] => { results := [.lit (.bool false)], args := [d1, d2] }
  | _ => none }
def IrMakesWrongFalsely : Prop := irMakesRow.holds Try.pinned (OpenSpec.ofChange irMakesWrong)

/-- 'interlocklaw02.IrTells': WHATEVER THE INPUT: true; the input reads as it did. -/
def irTellsSpec : ChangeSpec := { name := "irTells", fn := fun _ => fun
  | [d1, d2, d3] => { results := [.lit (.bool true)], args := [d1, d2, d3] }
  | _ => none }
def irTellsRow : OpenClaim := { program := "ytkkhjfkgfmodnaa", sum := "60f7e2e7eed9d32c0da77b87f12ca5a442cdc7fc76a699bc7bb21e32014793d6", func := "interlock/interlocklaw02.IrTells", spec := "irTells", unfollowed := true, recurses := true, apart := false }
def IrTellsSaid : Prop := irTellsRow.holds Try.pinned (OpenSpec.ofChange irTellsSpec)

/-- ITS FALSE NEIGHBOUR: 'it returns false'. Refute it at one input. -/
def irTellsWrong : ChangeSpec := { name := "irTells", fn := fun _ => fun
  | [d1, d2, d3] => { results := [.lit (.bool false)], args := [d1, d2, d3] }
  | _ => none }
def IrTellsWrongFalsely : Prop := irTellsRow.holds Try.pinned (OpenSpec.ofChange irTellsWrong)

/-- 'interlocklaw02.IrFinds': WHATEVER THE INPUT: true; the input reads as it did. -/
def irFindsSpec : ChangeSpec := { name := "irFinds", fn := fun _ => fun
  | [d1, d2] => { results := [.lit (.bool true)], args := [d1, d2] }
  | _ => none }
def irFindsRow : OpenClaim := { program := "ytkkhjfkgfmodnaa", sum := "60f7e2e7eed9d32c0da77b87f12ca5a442cdc7fc76a699bc7bb21e32014793d6", func := "interlock/interlocklaw02.IrFinds", spec := "irFinds", unfollowed := true, recurses := true, apart := false }
def IrFindsSaid : Prop := irFindsRow.holds Try.pinned (OpenSpec.ofChange irFindsSpec)

/-- ITS FALSE NEIGHBOUR: 'it returns false'. Refute it at one input. -/
def irFindsWrong : ChangeSpec := { name := "irFinds", fn := fun _ => fun
  | [d1, d2] => { results := [.lit (.bool false)], args := [d1, d2] }
  | _ => none }
def IrFindsWrongFalsely : Prop := irFindsRow.holds Try.pinned (OpenSpec.ofChange irFindsWrong)

/-- 'interlocklaw02.IrSounds': WHATEVER THE INPUT: true; the input reads as it did. -/
def irSoundsSpec : ChangeSpec := { name := "irSounds", fn := fun _ => fun
  | [d1, d2, d3, d4, d5, d6, d7] => { results := [.lit (.bool true)], args := [d1, d2, d3, d4, d5, d6, d7] }
  | _ => none }
def irSoundsRow : OpenClaim := { program := "ytkkhjfkgfmodnaa", sum := "60f7e2e7eed9d32c0da77b87f12ca5a442cdc7fc76a699bc7bb21e32014793d6", func := "interlock/interlocklaw02.IrSounds", spec := "irSounds", unfollowed := true, recurses := true, apart := false }
def IrSoundsSaid : Prop := irSoundsRow.holds Try.pinned (OpenSpec.ofChange irSoundsSpec)

/-- ITS FALSE NEIGHBOUR: 'it returns false'. Refute it at one input. -/
def irSoundsWrong : ChangeSpec := { name := "irSounds", fn := fun _ => fun
  | [d1, d2, d3, d4, d5, d6, d7] => { results := [.lit (.bool false)], args := [d1, d2, d3, d4, d5, d6, d7] }
  | _ => none }
def IrSoundsWrongFalsely : Prop := irSoundsRow.holds Try.pinned (OpenSpec.ofChange irSoundsWrong)

/-- 'interlocklaw02.IrOnce': WHATEVER THE INPUT: true; the input reads as it did. -/
def irOnceSpec : ChangeSpec := { name := "irOnce", fn := fun _ => fun
  | [d1, d2] => { results := [.lit (.bool true)], args := [d1, d2] }
  | _ => none }
def irOnceRow : OpenClaim := { program := "ytkkhjfkgfmodnaa", sum := "60f7e2e7eed9d32c0da77b87f12ca5a442cdc7fc76a699bc7bb21e32014793d6", func := "interlock/interlocklaw02.IrOnce", spec := "irOnce", unfollowed := true, recurses := true, apart := false }
def IrOnceSaid : Prop := irOnceRow.holds Try.pinned (OpenSpec.ofChange irOnceSpec)

/-- ITS FALSE NEIGHBOUR: 'it returns false'. Refute it at one input. -/
def irOnceWrong : ChangeSpec := { name := "irOnce", fn := fun _ => fun
  | [d1, d2] => { results := [.lit (.bool false)], args := [d1, d2] }
  | _ => none }
def IrOnceWrongFalsely : Prop := irOnceRow.holds Try.pinned (OpenSpec.ofChange irOnceWrong)

/- THE SECOND FORM. 'bulk': how many values and letters a reading holds, each counted each time it is reached (what is shared counts as often as it is met; a slice's spare places count too). A statement '..UptoSaid' is the law's where the arguments, and the package variables that the reading takes, are together of bulk at most 1048576: NARROWER than '..Said'. Prove '..Said' where nothing that the law and all that it calls make is longer than what came in: it says more and counts as full. Else prove '..UptoSaid'. A law counts once. -/
mutual
def uptoBulk {H : Type} : DataW H → Nat
  | .lit (.string bytes) => bytes.length + 1
  | .lit _ => 1
  | .nil => 1
  | .ptr d => uptoBulk d + 1
  | .slice elems spare => uptoBulkAll elems + uptoBulkAll spare + 1
  | .agg parts => uptoBulkAll parts + 1
  | .iface _ d => uptoBulk d + 1
  | .map entries => uptoBulkEntries entries + 1
  | .held _ => 1
def uptoBulkAll {H : Type} : List (DataW H) → Nat
  | [] => 0
  | d :: r => uptoBulk d + uptoBulkAll r
def uptoBulkEntries {H : Type} : List (Lit × DataW H) → Nat
  | [] => 0
  | x :: r => uptoBulkEntry x + uptoBulkEntries r
def uptoBulkEntry {H : Type} : Lit × DataW H → Nat
  | (.string bytes, d) => bytes.length + uptoBulk d + 1
  | (_, d) => uptoBulk d + 1
 end
def uptoSmall : (H : Type) → List (DataW H) → Bool := fun _ ds => decide (uptoBulkAll ds ≤ 1048576)
def OpenSpec.upto (s : _root_.Go.ChangeSpec) : _root_.Go.OpenSpec := { _root_.Go.OpenSpec.ofChange s with cond := some uptoSmall }

/-- 'interlocklaw02.IrPlaces', WHERE WHAT IT READS IS OF BULK AT MOST 1048576: true; the input reads as it did. -/
def irPlacesUptoRow : OpenClaim := { program := "ytkkhjfkgfmodnaa", sum := "60f7e2e7eed9d32c0da77b87f12ca5a442cdc7fc76a699bc7bb21e32014793d6", func := "interlock/interlocklaw02.IrPlaces", spec := "irPlaces", unfollowed := true, recurses := true, apart := false, narrowed := true }
def IrPlacesUptoSaid : Prop := irPlacesUptoRow.holds Try.pinned (OpenSpec.upto irPlacesSpec)

/-- 'interlocklaw02.IrRegs', WHERE WHAT IT READS IS OF BULK AT MOST 1048576: true; the input reads as it did. -/
def irRegsUptoRow : OpenClaim := { program := "ytkkhjfkgfmodnaa", sum := "60f7e2e7eed9d32c0da77b87f12ca5a442cdc7fc76a699bc7bb21e32014793d6", func := "interlock/interlocklaw02.IrRegs", spec := "irRegs", unfollowed := true, recurses := true, apart := false, narrowed := true }
def IrRegsUptoSaid : Prop := irRegsUptoRow.holds Try.pinned (OpenSpec.upto irRegsSpec)

/-- 'interlocklaw02.IrMakes', WHERE WHAT IT READS IS OF BULK AT MOST 1048576: true; the input reads as it did. -/
def irMakesUptoRow : OpenClaim := { program := "ytkkhjfkgfmodnaa", sum := "60f7e2e7eed9d32c0da77b87f12ca5a442cdc7fc76a699bc7bb21e32014793d6", func := "interlock/interlocklaw02.IrMakes", spec := "irMakes", unfollowed := true, recurses := true, apart := false, narrowed := true }
def IrMakesUptoSaid : Prop := irMakesUptoRow.holds Try.pinned (OpenSpec.upto irMakesSpec)

/-- 'interlocklaw02.IrTells', WHERE WHAT IT READS IS OF BULK AT MOST 1048576: true; the input reads as it did. -/
def irTellsUptoRow : OpenClaim := { program := "ytkkhjfkgfmodnaa", sum := "60f7e2e7eed9d32c0da77b87f12ca5a442cdc7fc76a699bc7bb21e32014793d6", func := "interlock/interlocklaw02.IrTells", spec := "irTells", unfollowed := true, recurses := true, apart := false, narrowed := true }
def IrTellsUptoSaid : Prop := irTellsUptoRow.holds Try.pinned (OpenSpec.upto irTellsSpec)

/-- 'interlocklaw02.IrFinds', WHERE WHAT IT READS IS OF BULK AT MOST 1048576: true; the input reads as it did. -/
def irFindsUptoRow : OpenClaim := { program := "ytkkhjfkgfmodnaa", sum := "60f7e2e7eed9d32c0da77b87f12ca5a442cdc7fc76a699bc7bb21e32014793d6", func := "interlock/interlocklaw02.IrFinds", spec := "irFinds", unfollowed := true, recurses := true, apart := false, narrowed := true }
def IrFindsUptoSaid : Prop := irFindsUptoRow.holds Try.pinned (OpenSpec.upto irFindsSpec)

/-- 'interlocklaw02.IrSounds', WHERE WHAT IT READS IS OF BULK AT MOST 1048576: true; the input reads as it did. -/
def irSoundsUptoRow : OpenClaim := { program := "ytkkhjfkgfmodnaa", sum := "60f7e2e7eed9d32c0da77b87f12ca5a442cdc7fc76a699bc7bb21e32014793d6", func := "interlock/interlocklaw02.IrSounds", spec := "irSounds", unfollowed := true, recurses := true, apart := false, narrowed := true }
def IrSoundsUptoSaid : Prop := irSoundsUptoRow.holds Try.pinned (OpenSpec.upto irSoundsSpec)

/-- 'interlocklaw02.IrOnce', WHERE WHAT IT READS IS OF BULK AT MOST 1048576: true; the input reads as it did. -/
def irOnceUptoRow : OpenClaim := { program := "ytkkhjfkgfmodnaa", sum := "60f7e2e7eed9d32c0da77b87f12ca5a442cdc7fc76a699bc7bb21e32014793d6", func := "interlock/interlocklaw02.IrOnce", spec := "irOnce", unfollowed := true, recurses := true, apart := false, narrowed := true }
def IrOnceUptoSaid : Prop := irOnceUptoRow.holds Try.pinned (OpenSpec.upto irOnceSpec)

end Rows
end Go.Proofs.Ytkkhjfkgfmodnaa
