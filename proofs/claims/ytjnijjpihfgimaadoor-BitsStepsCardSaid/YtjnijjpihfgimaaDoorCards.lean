/-
  DERIVED. GIVEN WITH THE SEED: THE CARDS: each row of YtjnijjpihfgimaaDoorRows.lean that lists a variable, with what it lists TIED to the program's text (the seventh form; the later family's looks); each row that meets fmt, with fmt's text TOLD by the authors' own Lean function (tested against real Go, not proved from fmt's source: count such statements apart). THE CARD IS WHAT COUNTS. Prove the row's statement (the work); the ties are given (YtjnijjpihfgimaaDoorTie.lean); close each card by the builder's one call (the guide's Derived/Test/ToyasCard.lean, 'card_holds'). Laid BY PROGRAM, IN A SANDBOX (cutbox-door.mjs). By AI agents, Wed Nov 11 2026. No macro, syntax, notation, axiom, sorry.
-/
import Derived.Test.YtjnijjpihfgimaaDoorRows
import GoSem.ClaimSeven
namespace Go.Proofs.YtjnijjpihfgimaaDoor
namespace Rows

/-- THE TIED CARD OF 'interlocklaw01.BitsTwo'. -/
def bitsTwoCard : Claim7 := { stood := { row := bitsTwoRow, standIns := [], harness := (true, "4c4a77458fa145ab2941f8151042d59f46c15bd87c034dd5c108c233fe0dea3d"), looks := false }, kinds := [], alts := [], laidByText := true, laidKinds := [.data], laidTests := true, laidLooks := .later }
def BitsTwoCardSaid : Prop := Claim7.holds Tryd.pinned (.plain (OpenSpec.ofChange bitsTwoSpec)) bitsTwoCard

/-- THE TIED CARD OF 'interlocklaw01.BitsLess'. -/
def bitsLessCard : Claim7 := { stood := { row := bitsLessRow, standIns := [], harness := (true, "4c4a77458fa145ab2941f8151042d59f46c15bd87c034dd5c108c233fe0dea3d"), looks := false }, kinds := [], alts := [], laidByText := true, laidKinds := [.data], laidTests := true, laidLooks := .later }
def BitsLessCardSaid : Prop := Claim7.holds Tryd.pinned (.plain (OpenSpec.ofChange bitsLessSpec)) bitsLessCard

/-- THE TIED CARD OF 'interlocklaw01.BitsTell'. -/
def bitsTellCard : Claim7 := { stood := { row := bitsTellRow, standIns := [], harness := (true, "4c4a77458fa145ab2941f8151042d59f46c15bd87c034dd5c108c233fe0dea3d"), looks := false }, kinds := [], alts := [], laidByText := true, laidKinds := [.data], laidTests := true, laidLooks := .later }
def BitsTellCardSaid : Prop := Claim7.holds Tryd.pinned (.plain (OpenSpec.ofChange bitsTellSpec)) bitsTellCard

/-- THE TIED CARD OF 'interlocklaw01.BitsWith'. -/
def bitsWithCard : Claim7 := { stood := { row := bitsWithRow, standIns := [], harness := (true, "4c4a77458fa145ab2941f8151042d59f46c15bd87c034dd5c108c233fe0dea3d"), looks := false }, kinds := [], alts := [], laidByText := true, laidKinds := [.data], laidTests := true, laidLooks := .later }
def BitsWithCardSaid : Prop := Claim7.holds Tryd.pinned (.plain (OpenSpec.ofChange bitsWithSpec)) bitsWithCard

/-- THE TIED CARD OF 'interlocklaw01.BitsAll'. -/
def bitsAllCard : Claim7 := { stood := { row := bitsAllRow, standIns := [], harness := (true, "4c4a77458fa145ab2941f8151042d59f46c15bd87c034dd5c108c233fe0dea3d"), looks := false }, kinds := [], alts := [], laidByText := true, laidKinds := [.data], laidTests := true, laidLooks := .later }
def BitsAllCardSaid : Prop := Claim7.holds Tryd.pinned (.plain (OpenSpec.ofChange bitsAllSpec)) bitsAllCard

/-- THE TIED CARD OF 'interlocklaw01.BitsBack'. -/
def bitsBackCard : Claim7 := { stood := { row := bitsBackRow, standIns := [], harness := (true, "4c4a77458fa145ab2941f8151042d59f46c15bd87c034dd5c108c233fe0dea3d"), looks := false }, kinds := [], alts := [], laidByText := true, laidKinds := [.data], laidTests := true, laidLooks := .later }
def BitsBackCardSaid : Prop := Claim7.holds Tryd.pinned (.plain (OpenSpec.ofChange bitsBackSpec)) bitsBackCard

/-- THE TIED CARD OF 'interlocklaw01.BitsOne'. -/
def bitsOneCard : Claim7 := { stood := { row := bitsOneRow, standIns := [], harness := (true, "4c4a77458fa145ab2941f8151042d59f46c15bd87c034dd5c108c233fe0dea3d"), looks := false }, kinds := [], alts := [], laidByText := true, laidKinds := [.data], laidTests := true, laidLooks := .later }
def BitsOneCardSaid : Prop := Claim7.holds Tryd.pinned (.plain (OpenSpec.ofChange bitsOneSpec)) bitsOneCard

/-- THE TIED CARD OF 'interlocklaw01.BitsSteps'. -/
def bitsStepsCard : Claim7 := { stood := { row := bitsStepsRow, standIns := [], harness := (true, "4c4a77458fa145ab2941f8151042d59f46c15bd87c034dd5c108c233fe0dea3d"), looks := false }, kinds := [], alts := [], laidByText := true, laidKinds := [.data], laidTests := true, laidLooks := .later }
def BitsStepsCardSaid : Prop := Claim7.holds Tryd.pinned (.plain (OpenSpec.ofChange bitsStepsSpec)) bitsStepsCard

/-- THE SECOND FORM's CARD OF 'interlocklaw01.BitsTwo'. -/
def bitsTwoUptoCard : Claim7 := { stood := { row := bitsTwoUptoRow, standIns := [], harness := (true, "4c4a77458fa145ab2941f8151042d59f46c15bd87c034dd5c108c233fe0dea3d"), looks := false }, kinds := [], alts := [], laidByText := true, laidKinds := [.data], laidTests := true, laidLooks := .later }
def BitsTwoUptoCardSaid : Prop := Claim7.holds Tryd.pinned (.plain (OpenSpec.upto bitsTwoSpec)) bitsTwoUptoCard

/-- THE SECOND FORM's CARD OF 'interlocklaw01.BitsLess'. -/
def bitsLessUptoCard : Claim7 := { stood := { row := bitsLessUptoRow, standIns := [], harness := (true, "4c4a77458fa145ab2941f8151042d59f46c15bd87c034dd5c108c233fe0dea3d"), looks := false }, kinds := [], alts := [], laidByText := true, laidKinds := [.data], laidTests := true, laidLooks := .later }
def BitsLessUptoCardSaid : Prop := Claim7.holds Tryd.pinned (.plain (OpenSpec.upto bitsLessSpec)) bitsLessUptoCard

/-- THE SECOND FORM's CARD OF 'interlocklaw01.BitsTell'. -/
def bitsTellUptoCard : Claim7 := { stood := { row := bitsTellUptoRow, standIns := [], harness := (true, "4c4a77458fa145ab2941f8151042d59f46c15bd87c034dd5c108c233fe0dea3d"), looks := false }, kinds := [], alts := [], laidByText := true, laidKinds := [.data], laidTests := true, laidLooks := .later }
def BitsTellUptoCardSaid : Prop := Claim7.holds Tryd.pinned (.plain (OpenSpec.upto bitsTellSpec)) bitsTellUptoCard

/-- THE SECOND FORM's CARD OF 'interlocklaw01.BitsWith'. -/
def bitsWithUptoCard : Claim7 := { stood := { row := bitsWithUptoRow, standIns := [], harness := (true, "4c4a77458fa145ab2941f8151042d59f46c15bd87c034dd5c108c233fe0dea3d"), looks := false }, kinds := [], alts := [], laidByText := true, laidKinds := [.data], laidTests := true, laidLooks := .later }
def BitsWithUptoCardSaid : Prop := Claim7.holds Tryd.pinned (.plain (OpenSpec.upto bitsWithSpec)) bitsWithUptoCard

/-- THE SECOND FORM's CARD OF 'interlocklaw01.BitsAll'. -/
def bitsAllUptoCard : Claim7 := { stood := { row := bitsAllUptoRow, standIns := [], harness := (true, "4c4a77458fa145ab2941f8151042d59f46c15bd87c034dd5c108c233fe0dea3d"), looks := false }, kinds := [], alts := [], laidByText := true, laidKinds := [.data], laidTests := true, laidLooks := .later }
def BitsAllUptoCardSaid : Prop := Claim7.holds Tryd.pinned (.plain (OpenSpec.upto bitsAllSpec)) bitsAllUptoCard

/-- THE SECOND FORM's CARD OF 'interlocklaw01.BitsBack'. -/
def bitsBackUptoCard : Claim7 := { stood := { row := bitsBackUptoRow, standIns := [], harness := (true, "4c4a77458fa145ab2941f8151042d59f46c15bd87c034dd5c108c233fe0dea3d"), looks := false }, kinds := [], alts := [], laidByText := true, laidKinds := [.data], laidTests := true, laidLooks := .later }
def BitsBackUptoCardSaid : Prop := Claim7.holds Tryd.pinned (.plain (OpenSpec.upto bitsBackSpec)) bitsBackUptoCard

/-- THE SECOND FORM's CARD OF 'interlocklaw01.BitsOne'. -/
def bitsOneUptoCard : Claim7 := { stood := { row := bitsOneUptoRow, standIns := [], harness := (true, "4c4a77458fa145ab2941f8151042d59f46c15bd87c034dd5c108c233fe0dea3d"), looks := false }, kinds := [], alts := [], laidByText := true, laidKinds := [.data], laidTests := true, laidLooks := .later }
def BitsOneUptoCardSaid : Prop := Claim7.holds Tryd.pinned (.plain (OpenSpec.upto bitsOneSpec)) bitsOneUptoCard

/-- THE SECOND FORM's CARD OF 'interlocklaw01.BitsSteps'. -/
def bitsStepsUptoCard : Claim7 := { stood := { row := bitsStepsUptoRow, standIns := [], harness := (true, "4c4a77458fa145ab2941f8151042d59f46c15bd87c034dd5c108c233fe0dea3d"), looks := false }, kinds := [], alts := [], laidByText := true, laidKinds := [.data], laidTests := true, laidLooks := .later }
def BitsStepsUptoCardSaid : Prop := Claim7.holds Tryd.pinned (.plain (OpenSpec.upto bitsStepsSpec)) bitsStepsUptoCard
end Rows
end Go.Proofs.YtjnijjpihfgimaaDoor
