/-
  NARROWER THAN 'FOR EVERY INPUT', by the rows' own cells (each row's printed sentence says how): Manifests: laid · ManifestForms: laid · ManifestFull: laid · ManifestEdges: laid · ManifestBlank: laid · ManifestMay: laid · ManifestBinds: laid.
  DERIVED. THE GIVEN ROWS OF THIS SEAT. 7 by the template 'for every input the law returns true; each argument reads behind the call as it read before'; 0 by the template 'total and deterministic' (their statements: YtefheailchihaaaGreatDoorTotals.lean).
  GIVEN WITH THE SEED: the statements are not yours to turn. If you find one false, say at which input.
  Laid BY PROGRAM, IN A SANDBOX (cutbox-rows.mjs): the forced cells as the released guide's own fill.sh prints them over the translation e3a1b6398c0835cc… (all of the seat's roots in one cut). By AI agents, Wed Nov 11 2026. No macro, syntax, notation, axiom, sorry.
-/
import Derived.Test.YtefheailchihaaaGreatDoorChecked
import GoSem.PinnedTables
import GoSem.Claim
import GoSem.ClaimJoined
import GoSem.ClaimMapViews
import Derived.JoinedTies
import Derived.KernelRfl
namespace Go.Proofs.YtefheailchihaaaGreatDoor
/- THE CELL 'sum', in the pinned program and in every row, IS THE sha256 OF THE DUMP (.gsa) THAT YtefheailchihaaaGreatDoorProg.lean LOADS. Nothing in Lean hashes anything: it is a label: what it is worth is what the hold of that sum in a sandbox is worth. -/
noncomputable def Tryz.pinned : Pinned := { name := "ytefheailchihaaagreatdoor", sum := "e3a1b6398c0835cc0f46c9f40f67e917a86abe825ac8368e876d191898cae806", checked := Tryz.checked }
namespace Rows
def none {H : Type} : Left H := { results := [], args := [] }

/- WHAT THE LISTED PACKAGE-LEVEL VARIABLES READ AS WHEN THE CALL BEGINS. Each datum BY PROGRAM (the guide's laid-datum.mjs) off the statement by which the dump's own 'gosem.cut.vars' lays the variable. In a bare row this is a premise. The card (YtefheailchihaaaGreatDoorCards.lean) ties it to the program's text. -/
def laid_unicode_utf8_acceptRanges {H : Type} : DataW H := .agg [.agg [.lit (.int .u8 128), .lit (.int .u8 191)], .agg [.lit (.int .u8 160), .lit (.int .u8 191)], .agg [.lit (.int .u8 128), .lit (.int .u8 159)], .agg [.lit (.int .u8 144), .lit (.int .u8 191)], .agg [.lit (.int .u8 128), .lit (.int .u8 143)], .agg [.lit (.int .u8 0), .lit (.int .u8 0)], .agg [.lit (.int .u8 0), .lit (.int .u8 0)], .agg [.lit (.int .u8 0), .lit (.int .u8 0)], .agg [.lit (.int .u8 0), .lit (.int .u8 0)], .agg [.lit (.int .u8 0), .lit (.int .u8 0)], .agg [.lit (.int .u8 0), .lit (.int .u8 0)], .agg [.lit (.int .u8 0), .lit (.int .u8 0)], .agg [.lit (.int .u8 0), .lit (.int .u8 0)], .agg [.lit (.int .u8 0), .lit (.int .u8 0)], .agg [.lit (.int .u8 0), .lit (.int .u8 0)], .agg [.lit (.int .u8 0), .lit (.int .u8 0)]]
/-- One of Go's own tables, pinned by name: the form's constant. -/
def laid_unicode_utf8_first : DataW Unit := Go.Pinned.utf8First

/-- 'cruciblelaw8.Manifests': WHATEVER THE INPUT: true; the input reads as it did. -/
def manifestsSpec : ChangeSpec := { name := "manifests", fn := fun _ => fun
  | [d] => { results := [.lit (.bool true)], args := [d] }
  | _ => none }
def manifestsRow : OpenClaim := { program := "ytefheailchihaaagreatdoor", sum := "e3a1b6398c0835cc0f46c9f40f67e917a86abe825ac8368e876d191898cae806", func := "crucible/cruciblelaw8.Manifests", spec := "manifests", inPlace := ["internal/bytealg.CountString", "internal/bytealg.IndexByteString", "internal/bytealg.IndexString", "internal/abi.NoEscape", "internal/bytealg.MakeNoZero"], unfollowed := true, recurses := true, named := ["internal/bytealg.MaxLen", "unicode/utf8.first", "unicode/utf8.acceptRanges"], apart := false, laid := [("unicode/utf8.acceptRanges", laid_unicode_utf8_acceptRanges), ("unicode/utf8.first", laid_unicode_utf8_first)] }
def ManifestsSaid : Prop := manifestsRow.holds Tryz.pinned (OpenSpec.ofChange manifestsSpec)

/-- ITS FALSE NEIGHBOUR: 'it returns false'. Refute it at one input. -/
def manifestsWrong : ChangeSpec := { name := "manifests", fn := fun _ => fun
  | [d] => { results := [.lit (.bool false)], args := [d] }
  | _ => none }
def ManifestsWrongFalsely : Prop := manifestsRow.holds Tryz.pinned (OpenSpec.ofChange manifestsWrong)

/-- 'cruciblelaw8.ManifestForms': WHATEVER THE INPUT: true; the input reads as it did. -/
def manifestFormsSpec : ChangeSpec := { name := "manifestForms", fn := fun _ => fun
  | [d] => { results := [.lit (.bool true)], args := [d] }
  | _ => none }
def manifestFormsRow : OpenClaim := { program := "ytefheailchihaaagreatdoor", sum := "e3a1b6398c0835cc0f46c9f40f67e917a86abe825ac8368e876d191898cae806", func := "crucible/cruciblelaw8.ManifestForms", spec := "manifestForms", inPlace := ["internal/bytealg.CountString", "internal/bytealg.IndexByteString", "internal/bytealg.IndexString", "internal/abi.NoEscape", "internal/bytealg.MakeNoZero"], unfollowed := true, recurses := true, named := ["internal/bytealg.MaxLen", "unicode/utf8.first", "unicode/utf8.acceptRanges"], apart := false, laid := [("unicode/utf8.acceptRanges", laid_unicode_utf8_acceptRanges), ("unicode/utf8.first", laid_unicode_utf8_first)] }
def ManifestFormsSaid : Prop := manifestFormsRow.holds Tryz.pinned (OpenSpec.ofChange manifestFormsSpec)

/-- ITS FALSE NEIGHBOUR: 'it returns false'. Refute it at one input. -/
def manifestFormsWrong : ChangeSpec := { name := "manifestForms", fn := fun _ => fun
  | [d] => { results := [.lit (.bool false)], args := [d] }
  | _ => none }
def ManifestFormsWrongFalsely : Prop := manifestFormsRow.holds Tryz.pinned (OpenSpec.ofChange manifestFormsWrong)

/-- 'cruciblelaw8.ManifestFull': WHATEVER THE INPUT: true; the input reads as it did. -/
def manifestFullSpec : ChangeSpec := { name := "manifestFull", fn := fun _ => fun
  | [d] => { results := [.lit (.bool true)], args := [d] }
  | _ => none }
def manifestFullRow : OpenClaim := { program := "ytefheailchihaaagreatdoor", sum := "e3a1b6398c0835cc0f46c9f40f67e917a86abe825ac8368e876d191898cae806", func := "crucible/cruciblelaw8.ManifestFull", spec := "manifestFull", inPlace := ["internal/bytealg.CountString", "internal/bytealg.IndexByteString", "internal/bytealg.IndexString", "internal/abi.NoEscape", "internal/bytealg.MakeNoZero"], unfollowed := true, recurses := true, named := ["internal/bytealg.MaxLen", "unicode/utf8.first", "unicode/utf8.acceptRanges"], apart := false, laid := [("unicode/utf8.acceptRanges", laid_unicode_utf8_acceptRanges), ("unicode/utf8.first", laid_unicode_utf8_first)] }
def ManifestFullSaid : Prop := manifestFullRow.holds Tryz.pinned (OpenSpec.ofChange manifestFullSpec)

/-- ITS FALSE NEIGHBOUR: 'it returns false'. Refute it at one input. -/
def manifestFullWrong : ChangeSpec := { name := "manifestFull", fn := fun _ => fun
  | [d] => { results := [.lit (.bool false)], args := [d] }
  | _ => none }
def ManifestFullWrongFalsely : Prop := manifestFullRow.holds Tryz.pinned (OpenSpec.ofChange manifestFullWrong)

/-- 'cruciblelaw8.ManifestEdges': WHATEVER THE INPUT: true; the input reads as it did. -/
def manifestEdgesSpec : ChangeSpec := { name := "manifestEdges", fn := fun _ => fun
  | [d] => { results := [.lit (.bool true)], args := [d] }
  | _ => none }
def manifestEdgesRow : OpenClaim := { program := "ytefheailchihaaagreatdoor", sum := "e3a1b6398c0835cc0f46c9f40f67e917a86abe825ac8368e876d191898cae806", func := "crucible/cruciblelaw8.ManifestEdges", spec := "manifestEdges", inPlace := ["internal/bytealg.CountString", "internal/bytealg.IndexByteString", "internal/bytealg.IndexString", "internal/abi.NoEscape", "internal/bytealg.MakeNoZero"], unfollowed := true, recurses := true, named := ["internal/bytealg.MaxLen", "unicode/utf8.first", "unicode/utf8.acceptRanges"], apart := false, laid := [("unicode/utf8.acceptRanges", laid_unicode_utf8_acceptRanges), ("unicode/utf8.first", laid_unicode_utf8_first)] }
def ManifestEdgesSaid : Prop := manifestEdgesRow.holds Tryz.pinned (OpenSpec.ofChange manifestEdgesSpec)

/-- ITS FALSE NEIGHBOUR: 'it returns false'. Refute it at one input. -/
def manifestEdgesWrong : ChangeSpec := { name := "manifestEdges", fn := fun _ => fun
  | [d] => { results := [.lit (.bool false)], args := [d] }
  | _ => none }
def ManifestEdgesWrongFalsely : Prop := manifestEdgesRow.holds Tryz.pinned (OpenSpec.ofChange manifestEdgesWrong)

/-- 'cruciblelaw8.ManifestBlank': WHATEVER THE INPUT: true; the input reads as it did. -/
def manifestBlankSpec : ChangeSpec := { name := "manifestBlank", fn := fun _ => fun
  | [d1, d2] => { results := [.lit (.bool true)], args := [d1, d2] }
  | _ => none }
def manifestBlankRow : OpenClaim := { program := "ytefheailchihaaagreatdoor", sum := "e3a1b6398c0835cc0f46c9f40f67e917a86abe825ac8368e876d191898cae806", func := "crucible/cruciblelaw8.ManifestBlank", spec := "manifestBlank", inPlace := ["internal/bytealg.CountString", "internal/bytealg.IndexByteString", "internal/bytealg.IndexString", "internal/abi.NoEscape", "internal/bytealg.MakeNoZero"], unfollowed := true, recurses := true, named := ["internal/bytealg.MaxLen", "unicode/utf8.first", "unicode/utf8.acceptRanges"], apart := false, laid := [("unicode/utf8.acceptRanges", laid_unicode_utf8_acceptRanges), ("unicode/utf8.first", laid_unicode_utf8_first)] }
def ManifestBlankSaid : Prop := manifestBlankRow.holds Tryz.pinned (OpenSpec.ofChange manifestBlankSpec)

/-- ITS FALSE NEIGHBOUR: 'it returns false'. Refute it at one input. -/
def manifestBlankWrong : ChangeSpec := { name := "manifestBlank", fn := fun _ => fun
  | [d1, d2] => { results := [.lit (.bool false)], args := [d1, d2] }
  | _ => none }
def ManifestBlankWrongFalsely : Prop := manifestBlankRow.holds Tryz.pinned (OpenSpec.ofChange manifestBlankWrong)

/-- 'cruciblelaw8.ManifestMay': WHATEVER THE INPUT: true; the input reads as it did. -/
def manifestMaySpec : ChangeSpec := { name := "manifestMay", fn := fun _ => fun
  | [d] => { results := [.lit (.bool true)], args := [d] }
  | _ => none }
def manifestMayRow : OpenClaim := { program := "ytefheailchihaaagreatdoor", sum := "e3a1b6398c0835cc0f46c9f40f67e917a86abe825ac8368e876d191898cae806", func := "crucible/cruciblelaw8.ManifestMay", spec := "manifestMay", inPlace := ["internal/bytealg.CountString", "internal/bytealg.IndexByteString", "internal/bytealg.IndexString", "internal/abi.NoEscape", "internal/bytealg.MakeNoZero"], unfollowed := true, recurses := true, named := ["internal/bytealg.MaxLen", "unicode/utf8.first", "unicode/utf8.acceptRanges"], apart := false, laid := [("unicode/utf8.acceptRanges", laid_unicode_utf8_acceptRanges), ("unicode/utf8.first", laid_unicode_utf8_first)] }
def ManifestMaySaid : Prop := manifestMayRow.holds Tryz.pinned (OpenSpec.ofChange manifestMaySpec)

/-- ITS FALSE NEIGHBOUR: 'it returns false'. Refute it at one input. -/
def manifestMayWrong : ChangeSpec := { name := "manifestMay", fn := fun _ => fun
  | [d] => { results := [.lit (.bool false)], args := [d] }
  | _ => none }
def ManifestMayWrongFalsely : Prop := manifestMayRow.holds Tryz.pinned (OpenSpec.ofChange manifestMayWrong)

/-- 'cruciblelaw8.ManifestBinds': WHATEVER THE INPUT: true; the input reads as it did. -/
def manifestBindsSpec : ChangeSpec := { name := "manifestBinds", fn := fun _ => fun
  | [d] => { results := [.lit (.bool true)], args := [d] }
  | _ => none }
def manifestBindsRow : OpenClaim := { program := "ytefheailchihaaagreatdoor", sum := "e3a1b6398c0835cc0f46c9f40f67e917a86abe825ac8368e876d191898cae806", func := "crucible/cruciblelaw8.ManifestBinds", spec := "manifestBinds", inPlace := ["internal/bytealg.CountString", "internal/bytealg.IndexByteString", "internal/bytealg.IndexString", "internal/abi.NoEscape", "internal/bytealg.MakeNoZero"], unfollowed := true, recurses := true, named := ["internal/bytealg.MaxLen", "unicode/utf8.first", "unicode/utf8.acceptRanges"], apart := false, laid := [("unicode/utf8.acceptRanges", laid_unicode_utf8_acceptRanges), ("unicode/utf8.first", laid_unicode_utf8_first)] }
def ManifestBindsSaid : Prop := manifestBindsRow.holds Tryz.pinned (OpenSpec.ofChange manifestBindsSpec)

/-- ITS FALSE NEIGHBOUR: 'it returns false'. Refute it at one input. -/
def manifestBindsWrong : ChangeSpec := { name := "manifestBinds", fn := fun _ => fun
  | [d] => { results := [.lit (.bool false)], args := [d] }
  | _ => none }
def ManifestBindsWrongFalsely : Prop := manifestBindsRow.holds Tryz.pinned (OpenSpec.ofChange manifestBindsWrong)

/- THE SECOND FORM. 'bulk': how many values and letters a reading holds, each counted each time it is reached (what is shared counts as often as it is met; a slice's spare places count too). A statement '..UptoSaid' is the law's where the arguments, and the package variables that the reading takes, are together of bulk at most 1048576: NARROWER than '..Said'. Prove '..Said' where nothing that the law and all that it calls make is longer than what came in: it says more and counts as full. Else prove '..UptoSaid'. A law counts once. -/
mutual
def uptoBulk {H : Type} : DataW H → Nat
  | .lit (.string bytes) => bytes.length + 1
  | .lit _ => 1
  | .nil => 1
  | .ptr d => uptoBulk d + 1
  | .slice elems spare => uptoBulkAll elems + uptoBulkAll spare + 1
  | .agg parts => uptoBulkAll parts + 1
  | .iface _ d => uptoBulk d + 1
  | .map entries => uptoBulkEntries entries + 1
  | .held _ => 1
def uptoBulkAll {H : Type} : List (DataW H) → Nat
  | [] => 0
  | d :: r => uptoBulk d + uptoBulkAll r
def uptoBulkEntries {H : Type} : List (Lit × DataW H) → Nat
  | [] => 0
  | x :: r => uptoBulkEntry x + uptoBulkEntries r
def uptoBulkEntry {H : Type} : Lit × DataW H → Nat
  | (.string bytes, d) => bytes.length + uptoBulk d + 1
  | (_, d) => uptoBulk d + 1
 end
def uptoSmall : (H : Type) → List (DataW H) → Bool := fun _ ds => decide (uptoBulkAll ds ≤ 1048576)
def OpenSpec.upto (s : _root_.Go.ChangeSpec) : _root_.Go.OpenSpec := { _root_.Go.OpenSpec.ofChange s with cond := some uptoSmall }

/-- 'cruciblelaw8.Manifests', WHERE WHAT IT READS IS OF BULK AT MOST 1048576: true; the input reads as it did. -/
def manifestsUptoRow : OpenClaim := { program := "ytefheailchihaaagreatdoor", sum := "e3a1b6398c0835cc0f46c9f40f67e917a86abe825ac8368e876d191898cae806", func := "crucible/cruciblelaw8.Manifests", spec := "manifests", inPlace := ["internal/bytealg.CountString", "internal/bytealg.IndexByteString", "internal/bytealg.IndexString", "internal/abi.NoEscape", "internal/bytealg.MakeNoZero"], unfollowed := true, recurses := true, named := ["internal/bytealg.MaxLen", "unicode/utf8.first", "unicode/utf8.acceptRanges"], apart := false, laid := [("unicode/utf8.acceptRanges", laid_unicode_utf8_acceptRanges), ("unicode/utf8.first", laid_unicode_utf8_first)], narrowed := true }
def ManifestsUptoSaid : Prop := manifestsUptoRow.holds Tryz.pinned (OpenSpec.upto manifestsSpec)

/-- 'cruciblelaw8.ManifestForms', WHERE WHAT IT READS IS OF BULK AT MOST 1048576: true; the input reads as it did. -/
def manifestFormsUptoRow : OpenClaim := { program := "ytefheailchihaaagreatdoor", sum := "e3a1b6398c0835cc0f46c9f40f67e917a86abe825ac8368e876d191898cae806", func := "crucible/cruciblelaw8.ManifestForms", spec := "manifestForms", inPlace := ["internal/bytealg.CountString", "internal/bytealg.IndexByteString", "internal/bytealg.IndexString", "internal/abi.NoEscape", "internal/bytealg.MakeNoZero"], unfollowed := true, recurses := true, named := ["internal/bytealg.MaxLen", "unicode/utf8.first", "unicode/utf8.acceptRanges"], apart := false, laid := [("unicode/utf8.acceptRanges", laid_unicode_utf8_acceptRanges), ("unicode/utf8.first", laid_unicode_utf8_first)], narrowed := true }
def ManifestFormsUptoSaid : Prop := manifestFormsUptoRow.holds Tryz.pinned (OpenSpec.upto manifestFormsSpec)

/-- 'cruciblelaw8.ManifestFull', WHERE WHAT IT READS IS OF BULK AT MOST 1048576: true; the input reads as it did. -/
def manifestFullUptoRow : OpenClaim := { program := "ytefheailchihaaagreatdoor", sum := "e3a1b6398c0835cc0f46c9f40f67e917a86abe825ac8368e876d191898cae806", func := "crucible/cruciblelaw8.ManifestFull", spec := "manifestFull", inPlace := ["internal/bytealg.CountString", "internal/bytealg.IndexByteString", "internal/bytealg.IndexString", "internal/abi.NoEscape", "internal/bytealg.MakeNoZero"], unfollowed := true, recurses := true, named := ["internal/bytealg.MaxLen", "unicode/utf8.first", "unicode/utf8.acceptRanges"], apart := false, laid := [("unicode/utf8.acceptRanges", laid_unicode_utf8_acceptRanges), ("unicode/utf8.first", laid_unicode_utf8_first)], narrowed := true }
def ManifestFullUptoSaid : Prop := manifestFullUptoRow.holds Tryz.pinned (OpenSpec.upto manifestFullSpec)

/-- 'cruciblelaw8.ManifestEdges', WHERE WHAT IT READS IS OF BULK AT MOST 1048576: true; the input reads as it did. -/
def manifestEdgesUptoRow : OpenClaim := { program := "ytefheailchihaaagreatdoor", sum := "e3a1b6398c0835cc0f46c9f40f67e917a86abe825ac8368e876d191898cae806", func := "crucible/cruciblelaw8.ManifestEdges", spec := "manifestEdges", inPlace := ["internal/bytealg.CountString", "internal/bytealg.IndexByteString", "internal/bytealg.IndexString", "internal/abi.NoEscape", "internal/bytealg.MakeNoZero"], unfollowed := true, recurses := true, named := ["internal/bytealg.MaxLen", "unicode/utf8.first", "unicode/utf8.acceptRanges"], apart := false, laid := [("unicode/utf8.acceptRanges", laid_unicode_utf8_acceptRanges), ("unicode/utf8.first", laid_unicode_utf8_first)], narrowed := true }
def ManifestEdgesUptoSaid : Prop := manifestEdgesUptoRow.holds Tryz.pinned (OpenSpec.upto manifestEdgesSpec)

/-- 'cruciblelaw8.ManifestBlank', WHERE WHAT IT READS IS OF BULK AT MOST 1048576: true; the input reads as it did. -/
def manifestBlankUptoRow : OpenClaim := { program := "ytefheailchihaaagreatdoor", sum := "e3a1b6398c0835cc0f46c9f40f67e917a86abe825ac8368e876d191898cae806", func := "crucible/cruciblelaw8.ManifestBlank", spec := "manifestBlank", inPlace := ["internal/bytealg.CountString", "internal/bytealg.IndexByteString", "internal/bytealg.IndexString", "internal/abi.NoEscape", "internal/bytealg.MakeNoZero"], unfollowed := true, recurses := true, named := ["internal/bytealg.MaxLen", "unicode/utf8.first", "unicode/utf8.acceptRanges"], apart := false, laid := [("unicode/utf8.acceptRanges", laid_unicode_utf8_acceptRanges), ("unicode/utf8.first", laid_unicode_utf8_first)], narrowed := true }
def ManifestBlankUptoSaid : Prop := manifestBlankUptoRow.holds Tryz.pinned (OpenSpec.upto manifestBlankSpec)

/-- 'cruciblelaw8.ManifestMay', WHERE WHAT IT READS IS OF BULK AT MOST 1048576: true; the input reads as it did. -/
def manifestMayUptoRow : OpenClaim := { program := "ytefheailchihaaagreatdoor", sum := "e3a1b6398c0835cc0f46c9f40f67e917a86abe825ac8368e876d191898cae806", func := "crucible/cruciblelaw8.ManifestMay", spec := "manifestMay", inPlace := ["internal/bytealg.CountString", "internal/bytealg.IndexByteString", "internal/bytealg.IndexString", "internal/abi.NoEscape", "internal/bytealg.MakeNoZero"], unfollowed := true, recurses := true, named := ["internal/bytealg.MaxLen", "unicode/utf8.first", "unicode/utf8.acceptRanges"], apart := false, laid := [("unicode/utf8.acceptRanges", laid_unicode_utf8_acceptRanges), ("unicode/utf8.first", laid_unicode_utf8_first)], narrowed := true }
def ManifestMayUptoSaid : Prop := manifestMayUptoRow.holds Tryz.pinned (OpenSpec.upto manifestMaySpec)

/-- 'cruciblelaw8.ManifestBinds', WHERE WHAT IT READS IS OF BULK AT MOST 1048576: true; the input reads as it did. -/
def manifestBindsUptoRow : OpenClaim := { program := "ytefheailchihaaagreatdoor", sum := "e3a1b6398c0835cc0f46c9f40f67e917a86abe825ac8368e876d191898cae806", func := "crucible/cruciblelaw8.ManifestBinds", spec := "manifestBinds", inPlace := ["internal/bytealg.CountString", "internal/bytealg.IndexByteString", "internal/bytealg.IndexString", "internal/abi.NoEscape", "internal/bytealg.MakeNoZero"], unfollowed := true, recurses := true, named := ["internal/bytealg.MaxLen", "unicode/utf8.first", "unicode/utf8.acceptRanges"], apart := false, laid := [("unicode/utf8.acceptRanges", laid_unicode_utf8_acceptRanges), ("unicode/utf8.first", laid_unicode_utf8_first)], narrowed := true }
def ManifestBindsUptoSaid : Prop := manifestBindsUptoRow.holds Tryz.pinned (OpenSpec.upto manifestBindsSpec)

end Rows
end Go.Proofs.YtefheailchihaaaGreatDoor
