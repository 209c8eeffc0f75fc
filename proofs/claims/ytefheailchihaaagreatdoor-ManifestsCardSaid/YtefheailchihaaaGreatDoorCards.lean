/-
  DERIVED. GIVEN WITH THE SEED: THE CARDS: each row of YtefheailchihaaaGreatDoorRows.lean that lists a variable, with what it lists TIED to the program's text (the seventh form; the later family's looks); each row that meets fmt, with fmt's text TOLD by the authors' own Lean function (tested against real Go, not proved from fmt's source: count such statements apart). THE CARD IS WHAT COUNTS. Prove the row's statement (the work); the ties are given (YtefheailchihaaaGreatDoorTie.lean); close each card by the builder's one call (the guide's Derived/Test/ToyasCard.lean, 'card_holds'). Laid BY PROGRAM, IN A SANDBOX (cutbox-door.mjs). By AI agents, Wed Nov 11 2026. No macro, syntax, notation, axiom, sorry.
-/
import Derived.Test.YtefheailchihaaaGreatDoorRows
import GoSem.ClaimSeven
namespace Go.Proofs.YtefheailchihaaaGreatDoor
namespace Rows

/-- THE TIED CARD OF 'cruciblelaw8.Manifests'. -/
def manifestsCard : Claim7 := { stood := { row := manifestsRow, standIns := [], harness := (true, "07269a6c9f7c533016888154dddbe98e6196166fc406c607814952321d169552"), looks := false }, kinds := [], alts := [], laidByText := true, laidKinds := [.data, .pinned], laidTests := true, laidLooks := .later }
def ManifestsCardSaid : Prop := Claim7.holds Tryz.pinned (.plain (OpenSpec.ofChange manifestsSpec)) manifestsCard

/-- THE TIED CARD OF 'cruciblelaw8.ManifestForms'. -/
def manifestFormsCard : Claim7 := { stood := { row := manifestFormsRow, standIns := [], harness := (true, "07269a6c9f7c533016888154dddbe98e6196166fc406c607814952321d169552"), looks := false }, kinds := [], alts := [], laidByText := true, laidKinds := [.data, .pinned], laidTests := true, laidLooks := .later }
def ManifestFormsCardSaid : Prop := Claim7.holds Tryz.pinned (.plain (OpenSpec.ofChange manifestFormsSpec)) manifestFormsCard

/-- THE TIED CARD OF 'cruciblelaw8.ManifestFull'. -/
def manifestFullCard : Claim7 := { stood := { row := manifestFullRow, standIns := [], harness := (true, "07269a6c9f7c533016888154dddbe98e6196166fc406c607814952321d169552"), looks := false }, kinds := [], alts := [], laidByText := true, laidKinds := [.data, .pinned], laidTests := true, laidLooks := .later }
def ManifestFullCardSaid : Prop := Claim7.holds Tryz.pinned (.plain (OpenSpec.ofChange manifestFullSpec)) manifestFullCard

/-- THE TIED CARD OF 'cruciblelaw8.ManifestEdges'. -/
def manifestEdgesCard : Claim7 := { stood := { row := manifestEdgesRow, standIns := [], harness := (true, "07269a6c9f7c533016888154dddbe98e6196166fc406c607814952321d169552"), looks := false }, kinds := [], alts := [], laidByText := true, laidKinds := [.data, .pinned], laidTests := true, laidLooks := .later }
def ManifestEdgesCardSaid : Prop := Claim7.holds Tryz.pinned (.plain (OpenSpec.ofChange manifestEdgesSpec)) manifestEdgesCard

/-- THE TIED CARD OF 'cruciblelaw8.ManifestBlank'. -/
def manifestBlankCard : Claim7 := { stood := { row := manifestBlankRow, standIns := [], harness := (true, "07269a6c9f7c533016888154dddbe98e6196166fc406c607814952321d169552"), looks := false }, kinds := [], alts := [], laidByText := true, laidKinds := [.data, .pinned], laidTests := true, laidLooks := .later }
def ManifestBlankCardSaid : Prop := Claim7.holds Tryz.pinned (.plain (OpenSpec.ofChange manifestBlankSpec)) manifestBlankCard

/-- THE TIED CARD OF 'cruciblelaw8.ManifestMay'. -/
def manifestMayCard : Claim7 := { stood := { row := manifestMayRow, standIns := [], harness := (true, "07269a6c9f7c533016888154dddbe98e6196166fc406c607814952321d169552"), looks := false }, kinds := [], alts := [], laidByText := true, laidKinds := [.data, .pinned], laidTests := true, laidLooks := .later }
def ManifestMayCardSaid : Prop := Claim7.holds Tryz.pinned (.plain (OpenSpec.ofChange manifestMaySpec)) manifestMayCard

/-- THE TIED CARD OF 'cruciblelaw8.ManifestBinds'. -/
def manifestBindsCard : Claim7 := { stood := { row := manifestBindsRow, standIns := [], harness := (true, "07269a6c9f7c533016888154dddbe98e6196166fc406c607814952321d169552"), looks := false }, kinds := [], alts := [], laidByText := true, laidKinds := [.data, .pinned], laidTests := true, laidLooks := .later }
def ManifestBindsCardSaid : Prop := Claim7.holds Tryz.pinned (.plain (OpenSpec.ofChange manifestBindsSpec)) manifestBindsCard

/-- THE SECOND FORM's CARD OF 'cruciblelaw8.Manifests'. -/
def manifestsUptoCard : Claim7 := { stood := { row := manifestsUptoRow, standIns := [], harness := (true, "07269a6c9f7c533016888154dddbe98e6196166fc406c607814952321d169552"), looks := false }, kinds := [], alts := [], laidByText := true, laidKinds := [.data, .pinned], laidTests := true, laidLooks := .later }
def ManifestsUptoCardSaid : Prop := Claim7.holds Tryz.pinned (.plain (OpenSpec.upto manifestsSpec)) manifestsUptoCard

/-- THE SECOND FORM's CARD OF 'cruciblelaw8.ManifestForms'. -/
def manifestFormsUptoCard : Claim7 := { stood := { row := manifestFormsUptoRow, standIns := [], harness := (true, "07269a6c9f7c533016888154dddbe98e6196166fc406c607814952321d169552"), looks := false }, kinds := [], alts := [], laidByText := true, laidKinds := [.data, .pinned], laidTests := true, laidLooks := .later }
def ManifestFormsUptoCardSaid : Prop := Claim7.holds Tryz.pinned (.plain (OpenSpec.upto manifestFormsSpec)) manifestFormsUptoCard

/-- THE SECOND FORM's CARD OF 'cruciblelaw8.ManifestFull'. -/
def manifestFullUptoCard : Claim7 := { stood := { row := manifestFullUptoRow, standIns := [], harness := (true, "07269a6c9f7c533016888154dddbe98e6196166fc406c607814952321d169552"), looks := false }, kinds := [], alts := [], laidByText := true, laidKinds := [.data, .pinned], laidTests := true, laidLooks := .later }
def ManifestFullUptoCardSaid : Prop := Claim7.holds Tryz.pinned (.plain (OpenSpec.upto manifestFullSpec)) manifestFullUptoCard

/-- THE SECOND FORM's CARD OF 'cruciblelaw8.ManifestEdges'. -/
def manifestEdgesUptoCard : Claim7 := { stood := { row := manifestEdgesUptoRow, standIns := [], harness := (true, "07269a6c9f7c533016888154dddbe98e6196166fc406c607814952321d169552"), looks := false }, kinds := [], alts := [], laidByText := true, laidKinds := [.data, .pinned], laidTests := true, laidLooks := .later }
def ManifestEdgesUptoCardSaid : Prop := Claim7.holds Tryz.pinned (.plain (OpenSpec.upto manifestEdgesSpec)) manifestEdgesUptoCard

/-- THE SECOND FORM's CARD OF 'cruciblelaw8.ManifestBlank'. -/
def manifestBlankUptoCard : Claim7 := { stood := { row := manifestBlankUptoRow, standIns := [], harness := (true, "07269a6c9f7c533016888154dddbe98e6196166fc406c607814952321d169552"), looks := false }, kinds := [], alts := [], laidByText := true, laidKinds := [.data, .pinned], laidTests := true, laidLooks := .later }
def ManifestBlankUptoCardSaid : Prop := Claim7.holds Tryz.pinned (.plain (OpenSpec.upto manifestBlankSpec)) manifestBlankUptoCard

/-- THE SECOND FORM's CARD OF 'cruciblelaw8.ManifestMay'. -/
def manifestMayUptoCard : Claim7 := { stood := { row := manifestMayUptoRow, standIns := [], harness := (true, "07269a6c9f7c533016888154dddbe98e6196166fc406c607814952321d169552"), looks := false }, kinds := [], alts := [], laidByText := true, laidKinds := [.data, .pinned], laidTests := true, laidLooks := .later }
def ManifestMayUptoCardSaid : Prop := Claim7.holds Tryz.pinned (.plain (OpenSpec.upto manifestMaySpec)) manifestMayUptoCard

/-- THE SECOND FORM's CARD OF 'cruciblelaw8.ManifestBinds'. -/
def manifestBindsUptoCard : Claim7 := { stood := { row := manifestBindsUptoRow, standIns := [], harness := (true, "07269a6c9f7c533016888154dddbe98e6196166fc406c607814952321d169552"), looks := false }, kinds := [], alts := [], laidByText := true, laidKinds := [.data, .pinned], laidTests := true, laidLooks := .later }
def ManifestBindsUptoCardSaid : Prop := Claim7.holds Tryz.pinned (.plain (OpenSpec.upto manifestBindsSpec)) manifestBindsUptoCard
end Rows
end Go.Proofs.YtefheailchihaaaGreatDoor
