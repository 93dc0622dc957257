/-
  DERIVED. GIVEN WITH THE SEED: THE CARDS: each row of YtbnkeddnibjncaaDoorRows.lean that lists a variable, with what it lists TIED to the program's text (the seventh form; the later family's looks); each row that meets fmt, with fmt's text TOLD by the authors' own Lean function (tested against real Go, not proved from fmt's source: count such statements apart). THE CARD IS WHAT COUNTS. Prove the row's statement (the work); the ties are given (YtbnkeddnibjncaaDoorTie.lean); close each card by the builder's one call (the guide's Derived/Test/ToyasCard.lean, 'card_holds'). Laid BY PROGRAM, IN A SANDBOX (cutbox-door.mjs). By AI agents, Wed Nov 11 2026. No macro, syntax, notation, axiom, sorry.
-/
import Derived.Test.YtbnkeddnibjncaaDoorRows
import GoSem.ClaimSeven
namespace Go.Proofs.YtbnkeddnibjncaaDoor
namespace Rows

/-- THE TIED CARD OF 'interlocklaw12.LoopBacks'. -/
def loopBacksCard : Claim7 := { stood := { row := loopBacksRow, standIns := [], harness := (true, "6e776d5325cdd6fcc7a842b74d7f21530589cd42498fe7d4ac5df22234cc86f4"), looks := false }, kinds := [], alts := [], laidByText := true, laidKinds := [.data], laidTests := true, laidLooks := .later }
def LoopBacksCardSaid : Prop := Claim7.holds Tryd.pinned (.plain (OpenSpec.ofChange loopBacksSpec)) loopBacksCard

/-- THE TIED CARD OF 'interlocklaw12.LoopOf'. -/
def loopOfCard : Claim7 := { stood := { row := loopOfRow, standIns := [], harness := (true, "6e776d5325cdd6fcc7a842b74d7f21530589cd42498fe7d4ac5df22234cc86f4"), looks := false }, kinds := [], alts := [], laidByText := true, laidKinds := [.data], laidTests := true, laidLooks := .later }
def LoopOfCardSaid : Prop := Claim7.holds Tryd.pinned (.plain (OpenSpec.ofChange loopOfSpec)) loopOfCard

/-- THE TIED CARD OF 'interlocklaw12.LoopInto'. -/
def loopIntoCard : Claim7 := { stood := { row := loopIntoRow, standIns := [], harness := (true, "6e776d5325cdd6fcc7a842b74d7f21530589cd42498fe7d4ac5df22234cc86f4"), looks := false }, kinds := [], alts := [], laidByText := true, laidKinds := [.data], laidTests := true, laidLooks := .later }
def LoopIntoCardSaid : Prop := Claim7.holds Tryd.pinned (.plain (OpenSpec.ofChange loopIntoSpec)) loopIntoCard

/-- THE TIED CARD OF 'interlocklaw12.LoopFree'. -/
def loopFreeCard : Claim7 := { stood := { row := loopFreeRow, standIns := [], harness := (true, "6e776d5325cdd6fcc7a842b74d7f21530589cd42498fe7d4ac5df22234cc86f4"), looks := false }, kinds := [], alts := [], laidByText := true, laidKinds := [.data], laidTests := true, laidLooks := .later }
def LoopFreeCardSaid : Prop := Claim7.holds Tryd.pinned (.plain (OpenSpec.ofChange loopFreeSpec)) loopFreeCard

/-- THE TIED CARD OF 'interlocklaw12.LoopTwo'. -/
def loopTwoCard : Claim7 := { stood := { row := loopTwoRow, standIns := [], harness := (true, "6e776d5325cdd6fcc7a842b74d7f21530589cd42498fe7d4ac5df22234cc86f4"), looks := false }, kinds := [], alts := [], laidByText := true, laidKinds := [.data], laidTests := true, laidLooks := .later }
def LoopTwoCardSaid : Prop := Claim7.holds Tryd.pinned (.plain (OpenSpec.ofChange loopTwoSpec)) loopTwoCard

/-- THE SECOND FORM's CARD OF 'interlocklaw12.LoopBacks'. -/
def loopBacksUptoCard : Claim7 := { stood := { row := loopBacksUptoRow, standIns := [], harness := (true, "6e776d5325cdd6fcc7a842b74d7f21530589cd42498fe7d4ac5df22234cc86f4"), looks := false }, kinds := [], alts := [], laidByText := true, laidKinds := [.data], laidTests := true, laidLooks := .later }
def LoopBacksUptoCardSaid : Prop := Claim7.holds Tryd.pinned (.plain (OpenSpec.upto loopBacksSpec)) loopBacksUptoCard

/-- THE SECOND FORM's CARD OF 'interlocklaw12.LoopOf'. -/
def loopOfUptoCard : Claim7 := { stood := { row := loopOfUptoRow, standIns := [], harness := (true, "6e776d5325cdd6fcc7a842b74d7f21530589cd42498fe7d4ac5df22234cc86f4"), looks := false }, kinds := [], alts := [], laidByText := true, laidKinds := [.data], laidTests := true, laidLooks := .later }
def LoopOfUptoCardSaid : Prop := Claim7.holds Tryd.pinned (.plain (OpenSpec.upto loopOfSpec)) loopOfUptoCard

/-- THE SECOND FORM's CARD OF 'interlocklaw12.LoopInto'. -/
def loopIntoUptoCard : Claim7 := { stood := { row := loopIntoUptoRow, standIns := [], harness := (true, "6e776d5325cdd6fcc7a842b74d7f21530589cd42498fe7d4ac5df22234cc86f4"), looks := false }, kinds := [], alts := [], laidByText := true, laidKinds := [.data], laidTests := true, laidLooks := .later }
def LoopIntoUptoCardSaid : Prop := Claim7.holds Tryd.pinned (.plain (OpenSpec.upto loopIntoSpec)) loopIntoUptoCard

/-- THE SECOND FORM's CARD OF 'interlocklaw12.LoopFree'. -/
def loopFreeUptoCard : Claim7 := { stood := { row := loopFreeUptoRow, standIns := [], harness := (true, "6e776d5325cdd6fcc7a842b74d7f21530589cd42498fe7d4ac5df22234cc86f4"), looks := false }, kinds := [], alts := [], laidByText := true, laidKinds := [.data], laidTests := true, laidLooks := .later }
def LoopFreeUptoCardSaid : Prop := Claim7.holds Tryd.pinned (.plain (OpenSpec.upto loopFreeSpec)) loopFreeUptoCard

/-- THE SECOND FORM's CARD OF 'interlocklaw12.LoopTwo'. -/
def loopTwoUptoCard : Claim7 := { stood := { row := loopTwoUptoRow, standIns := [], harness := (true, "6e776d5325cdd6fcc7a842b74d7f21530589cd42498fe7d4ac5df22234cc86f4"), looks := false }, kinds := [], alts := [], laidByText := true, laidKinds := [.data], laidTests := true, laidLooks := .later }
def LoopTwoUptoCardSaid : Prop := Claim7.holds Tryd.pinned (.plain (OpenSpec.upto loopTwoSpec)) loopTwoUptoCard
end Rows
end Go.Proofs.YtbnkeddnibjncaaDoor
