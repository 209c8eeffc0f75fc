/-
  DERIVED. GIVEN WITH THE SEED: THE CARDS: each row of YtbkgcdjbkoeejaaDoorRows.lean that lists a variable, with what it lists TIED to the program's text (the seventh form; the later family's looks); each row that meets fmt, with fmt's text TOLD by the authors' own Lean function (tested against real Go, not proved from fmt's source: count such statements apart). THE CARD IS WHAT COUNTS. Prove the row's statement (the work); the ties are given (YtbkgcdjbkoeejaaDoorTie.lean); close each card by the builder's one call (the guide's Derived/Test/ToyasCard.lean, 'card_holds'). Laid BY PROGRAM, IN A SANDBOX (cutbox-door.mjs). By AI agents, Wed Nov 11 2026. No macro, syntax, notation, axiom, sorry.
-/
import Derived.Test.YtbkgcdjbkoeejaaDoorRows
import GoSem.ClaimSeven
namespace Go.Proofs.YtbkgcdjbkoeejaaDoor
namespace Rows

/-- THE TIED CARD OF 'cruciblelaw6.Lineses'. -/
def linesesCard : Claim7 := { stood := { row := linesesRow, standIns := [], harness := (true, "be002fb75483f9dd850ebf38b52f8a9eb6525c7705505c172b325be768154826"), looks := false }, kinds := [], alts := [], laidByText := true, laidKinds := [.data, .pinned], laidTests := true, laidLooks := .later }
def LinesesCardSaid : Prop := Claim7.holds Tryd.pinned (.plain (OpenSpec.ofChange linesesSpec)) linesesCard

/-- THE TIED CARD OF 'cruciblelaw6.LineForms'. -/
def lineFormsCard : Claim7 := { stood := { row := lineFormsRow, standIns := [], harness := (true, "be002fb75483f9dd850ebf38b52f8a9eb6525c7705505c172b325be768154826"), looks := false }, kinds := [], alts := [], laidByText := true, laidKinds := [.data, .pinned], laidTests := true, laidLooks := .later }
def LineFormsCardSaid : Prop := Claim7.holds Tryd.pinned (.plain (OpenSpec.ofChange lineFormsSpec)) lineFormsCard

/-- THE TIED CARD OF 'cruciblelaw6.LineRow'. -/
def lineRowCard : Claim7 := { stood := { row := lineRowRow, standIns := [], harness := (true, "be002fb75483f9dd850ebf38b52f8a9eb6525c7705505c172b325be768154826"), looks := false }, kinds := [], alts := [], laidByText := true, laidKinds := [.data, .pinned], laidTests := true, laidLooks := .later }
def LineRowCardSaid : Prop := Claim7.holds Tryd.pinned (.plain (OpenSpec.ofChange lineRowSpec)) lineRowCard

/-- THE TIED CARD OF 'cruciblelaw6.LineJoin'. -/
def lineJoinCard : Claim7 := { stood := { row := lineJoinRow, standIns := [], harness := (true, "be002fb75483f9dd850ebf38b52f8a9eb6525c7705505c172b325be768154826"), looks := false }, kinds := [], alts := [], laidByText := true, laidKinds := [.data, .pinned], laidTests := true, laidLooks := .later }
def LineJoinCardSaid : Prop := Claim7.holds Tryd.pinned (.plain (OpenSpec.ofChange lineJoinSpec)) lineJoinCard

/-- THE TIED CARD OF 'cruciblelaw6.LineSplit'. -/
def lineSplitCard : Claim7 := { stood := { row := lineSplitRow, standIns := [], harness := (true, "be002fb75483f9dd850ebf38b52f8a9eb6525c7705505c172b325be768154826"), looks := false }, kinds := [], alts := [], laidByText := true, laidKinds := [.data, .pinned], laidTests := true, laidLooks := .later }
def LineSplitCardSaid : Prop := Claim7.holds Tryd.pinned (.plain (OpenSpec.ofChange lineSplitSpec)) lineSplitCard

/-- THE SECOND FORM's CARD OF 'cruciblelaw6.Lineses'. -/
def linesesUptoCard : Claim7 := { stood := { row := linesesUptoRow, standIns := [], harness := (true, "be002fb75483f9dd850ebf38b52f8a9eb6525c7705505c172b325be768154826"), looks := false }, kinds := [], alts := [], laidByText := true, laidKinds := [.data, .pinned], laidTests := true, laidLooks := .later }
def LinesesUptoCardSaid : Prop := Claim7.holds Tryd.pinned (.plain (OpenSpec.upto linesesSpec)) linesesUptoCard

/-- THE SECOND FORM's CARD OF 'cruciblelaw6.LineForms'. -/
def lineFormsUptoCard : Claim7 := { stood := { row := lineFormsUptoRow, standIns := [], harness := (true, "be002fb75483f9dd850ebf38b52f8a9eb6525c7705505c172b325be768154826"), looks := false }, kinds := [], alts := [], laidByText := true, laidKinds := [.data, .pinned], laidTests := true, laidLooks := .later }
def LineFormsUptoCardSaid : Prop := Claim7.holds Tryd.pinned (.plain (OpenSpec.upto lineFormsSpec)) lineFormsUptoCard

/-- THE SECOND FORM's CARD OF 'cruciblelaw6.LineRow'. -/
def lineRowUptoCard : Claim7 := { stood := { row := lineRowUptoRow, standIns := [], harness := (true, "be002fb75483f9dd850ebf38b52f8a9eb6525c7705505c172b325be768154826"), looks := false }, kinds := [], alts := [], laidByText := true, laidKinds := [.data, .pinned], laidTests := true, laidLooks := .later }
def LineRowUptoCardSaid : Prop := Claim7.holds Tryd.pinned (.plain (OpenSpec.upto lineRowSpec)) lineRowUptoCard

/-- THE SECOND FORM's CARD OF 'cruciblelaw6.LineJoin'. -/
def lineJoinUptoCard : Claim7 := { stood := { row := lineJoinUptoRow, standIns := [], harness := (true, "be002fb75483f9dd850ebf38b52f8a9eb6525c7705505c172b325be768154826"), looks := false }, kinds := [], alts := [], laidByText := true, laidKinds := [.data, .pinned], laidTests := true, laidLooks := .later }
def LineJoinUptoCardSaid : Prop := Claim7.holds Tryd.pinned (.plain (OpenSpec.upto lineJoinSpec)) lineJoinUptoCard

/-- THE SECOND FORM's CARD OF 'cruciblelaw6.LineSplit'. -/
def lineSplitUptoCard : Claim7 := { stood := { row := lineSplitUptoRow, standIns := [], harness := (true, "be002fb75483f9dd850ebf38b52f8a9eb6525c7705505c172b325be768154826"), looks := false }, kinds := [], alts := [], laidByText := true, laidKinds := [.data, .pinned], laidTests := true, laidLooks := .later }
def LineSplitUptoCardSaid : Prop := Claim7.holds Tryd.pinned (.plain (OpenSpec.upto lineSplitSpec)) lineSplitUptoCard
end Rows
end Go.Proofs.YtbkgcdjbkoeejaaDoor
