/-
  NARROWER THAN 'FOR EVERY INPUT', by the rows' own cells (each row's printed sentence says how): Lineses: laid · LineForms: laid · LineRow: laid · LineJoin: laid · LineSplit: laid.
  DERIVED. THE GIVEN ROWS OF THIS SEAT. 5 by the template 'for every input the law returns true; each argument reads behind the call as it read before'; 0 by the template 'total and deterministic' (their statements: YtbkgcdjbkoeejaaDoorTotals.lean).
  GIVEN WITH THE SEED: the statements are not yours to turn. If you find one false, say at which input.
  Laid BY PROGRAM, IN A SANDBOX (cutbox-rows.mjs): the forced cells as the released guide's own fill.sh prints them over the translation 9329cb86d3eadf62… (all of the seat's roots in one cut). By AI agents, Wed Nov 11 2026. No macro, syntax, notation, axiom, sorry.
-/
import Derived.Test.YtbkgcdjbkoeejaaDoorChecked
import GoSem.PinnedTables
import GoSem.Claim
import GoSem.ClaimJoined
import GoSem.ClaimMapViews
import Derived.JoinedTies
import Derived.KernelRfl
namespace Go.Proofs.YtbkgcdjbkoeejaaDoor
/- THE CELL 'sum', in the pinned program and in every row, IS THE sha256 OF THE DUMP (.gsa) THAT YtbkgcdjbkoeejaaDoorProg.lean LOADS. Nothing in Lean hashes anything: it is a label: what it is worth is what the hold of that sum in a sandbox is worth. -/
noncomputable def Tryd.pinned : Pinned := { name := "ytbkgcdjbkoeejaadoor", sum := "9329cb86d3eadf6202eca24774c5667460406c7ec200f22cd0e68428c11822c9", checked := Tryd.checked }
namespace Rows
def none {H : Type} : Left H := { results := [], args := [] }

/- WHAT THE LISTED PACKAGE-LEVEL VARIABLES READ AS WHEN THE CALL BEGINS. Each datum BY PROGRAM (the guide's laid-datum.mjs) off the statement by which the dump's own 'gosem.cut.vars' lays the variable. In a bare row this is a premise. The card (YtbkgcdjbkoeejaaDoorCards.lean) ties it to the program's text. -/
def laid_unicode_utf8_acceptRanges {H : Type} : DataW H := .agg [.agg [.lit (.int .u8 128), .lit (.int .u8 191)], .agg [.lit (.int .u8 160), .lit (.int .u8 191)], .agg [.lit (.int .u8 128), .lit (.int .u8 159)], .agg [.lit (.int .u8 144), .lit (.int .u8 191)], .agg [.lit (.int .u8 128), .lit (.int .u8 143)], .agg [.lit (.int .u8 0), .lit (.int .u8 0)], .agg [.lit (.int .u8 0), .lit (.int .u8 0)], .agg [.lit (.int .u8 0), .lit (.int .u8 0)], .agg [.lit (.int .u8 0), .lit (.int .u8 0)], .agg [.lit (.int .u8 0), .lit (.int .u8 0)], .agg [.lit (.int .u8 0), .lit (.int .u8 0)], .agg [.lit (.int .u8 0), .lit (.int .u8 0)], .agg [.lit (.int .u8 0), .lit (.int .u8 0)], .agg [.lit (.int .u8 0), .lit (.int .u8 0)], .agg [.lit (.int .u8 0), .lit (.int .u8 0)], .agg [.lit (.int .u8 0), .lit (.int .u8 0)]]
/-- One of Go's own tables, pinned by name: the form's constant. -/
def laid_unicode_utf8_first : DataW Unit := Go.Pinned.utf8First

/-- 'cruciblelaw6.Lineses': WHATEVER THE INPUT: true; the input reads as it did. -/
def linesesSpec : ChangeSpec := { name := "lineses", fn := fun _ => fun
  | [d] => { results := [.lit (.bool true)], args := [d] }
  | _ => none }
def linesesRow : OpenClaim := { program := "ytbkgcdjbkoeejaadoor", sum := "9329cb86d3eadf6202eca24774c5667460406c7ec200f22cd0e68428c11822c9", func := "crucible/cruciblelaw6.Lineses", spec := "lineses", inPlace := ["internal/bytealg.CountString", "internal/bytealg.IndexByteString", "internal/bytealg.IndexString", "internal/abi.NoEscape", "internal/bytealg.MakeNoZero"], named := ["internal/bytealg.MaxLen", "unicode/utf8.first", "unicode/utf8.acceptRanges"], apart := false, laid := [("unicode/utf8.acceptRanges", laid_unicode_utf8_acceptRanges), ("unicode/utf8.first", laid_unicode_utf8_first)] }
def LinesesSaid : Prop := linesesRow.holds Tryd.pinned (OpenSpec.ofChange linesesSpec)

/-- ITS FALSE NEIGHBOUR: 'it returns false'. Refute it at one input. -/
def linesesWrong : ChangeSpec := { name := "lineses", fn := fun _ => fun
  | [d] => { results := [.lit (.bool false)], args := [d] }
  | _ => none }
def LinesesWrongFalsely : Prop := linesesRow.holds Tryd.pinned (OpenSpec.ofChange linesesWrong)

/-- 'cruciblelaw6.LineForms': WHATEVER THE INPUT: true; the input reads as it did. -/
def lineFormsSpec : ChangeSpec := { name := "lineForms", fn := fun _ => fun
  | [d1, d2] => { results := [.lit (.bool true)], args := [d1, d2] }
  | _ => none }
def lineFormsRow : OpenClaim := { program := "ytbkgcdjbkoeejaadoor", sum := "9329cb86d3eadf6202eca24774c5667460406c7ec200f22cd0e68428c11822c9", func := "crucible/cruciblelaw6.LineForms", spec := "lineForms", inPlace := ["internal/bytealg.CountString", "internal/bytealg.IndexByteString", "internal/bytealg.IndexString", "internal/abi.NoEscape", "internal/bytealg.MakeNoZero"], named := ["internal/bytealg.MaxLen", "unicode/utf8.first", "unicode/utf8.acceptRanges"], apart := false, laid := [("unicode/utf8.acceptRanges", laid_unicode_utf8_acceptRanges), ("unicode/utf8.first", laid_unicode_utf8_first)] }
def LineFormsSaid : Prop := lineFormsRow.holds Tryd.pinned (OpenSpec.ofChange lineFormsSpec)

/-- ITS FALSE NEIGHBOUR: 'it returns false'. Refute it at one input. -/
def lineFormsWrong : ChangeSpec := { name := "lineForms", fn := fun _ => fun
  | [d1, d2] => { results := [.lit (.bool false)], args := [d1, d2] }
  | _ => none }
def LineFormsWrongFalsely : Prop := lineFormsRow.holds Tryd.pinned (OpenSpec.ofChange lineFormsWrong)

/-- 'cruciblelaw6.LineRow': WHATEVER THE INPUT: true; the input reads as it did. -/
def lineRowSpec : ChangeSpec := { name := "lineRow", fn := fun _ => fun
  | [d] => { results := [.lit (.bool true)], args := [d] }
  | _ => none }
def lineRowRow : OpenClaim := { program := "ytbkgcdjbkoeejaadoor", sum := "9329cb86d3eadf6202eca24774c5667460406c7ec200f22cd0e68428c11822c9", func := "crucible/cruciblelaw6.LineRow", spec := "lineRow", inPlace := ["internal/bytealg.CountString", "internal/bytealg.IndexByteString", "internal/bytealg.IndexString", "internal/abi.NoEscape", "internal/bytealg.MakeNoZero"], named := ["internal/bytealg.MaxLen", "unicode/utf8.first", "unicode/utf8.acceptRanges"], apart := false, laid := [("unicode/utf8.acceptRanges", laid_unicode_utf8_acceptRanges), ("unicode/utf8.first", laid_unicode_utf8_first)] }
def LineRowSaid : Prop := lineRowRow.holds Tryd.pinned (OpenSpec.ofChange lineRowSpec)

/-- ITS FALSE NEIGHBOUR: 'it returns false'. Refute it at one input. -/
def lineRowWrong : ChangeSpec := { name := "lineRow", fn := fun _ => fun
  | [d] => { results := [.lit (.bool false)], args := [d] }
  | _ => none }
def LineRowWrongFalsely : Prop := lineRowRow.holds Tryd.pinned (OpenSpec.ofChange lineRowWrong)

/-- 'cruciblelaw6.LineJoin': WHATEVER THE INPUT: true; the input reads as it did. -/
def lineJoinSpec : ChangeSpec := { name := "lineJoin", fn := fun _ => fun
  | [d1, d2] => { results := [.lit (.bool true)], args := [d1, d2] }
  | _ => none }
def lineJoinRow : OpenClaim := { program := "ytbkgcdjbkoeejaadoor", sum := "9329cb86d3eadf6202eca24774c5667460406c7ec200f22cd0e68428c11822c9", func := "crucible/cruciblelaw6.LineJoin", spec := "lineJoin", inPlace := ["internal/bytealg.CountString", "internal/bytealg.IndexByteString", "internal/bytealg.IndexString", "internal/abi.NoEscape", "internal/bytealg.MakeNoZero"], named := ["internal/bytealg.MaxLen", "unicode/utf8.first", "unicode/utf8.acceptRanges"], apart := false, laid := [("unicode/utf8.acceptRanges", laid_unicode_utf8_acceptRanges), ("unicode/utf8.first", laid_unicode_utf8_first)] }
def LineJoinSaid : Prop := lineJoinRow.holds Tryd.pinned (OpenSpec.ofChange lineJoinSpec)

/-- ITS FALSE NEIGHBOUR: 'it returns false'. Refute it at one input. -/
def lineJoinWrong : ChangeSpec := { name := "lineJoin", fn := fun _ => fun
  | [d1, d2] => { results := [.lit (.bool false)], args := [d1, d2] }
  | _ => none }
def LineJoinWrongFalsely : Prop := lineJoinRow.holds Tryd.pinned (OpenSpec.ofChange lineJoinWrong)

/-- 'cruciblelaw6.LineSplit': WHATEVER THE INPUT: true; the input reads as it did. -/
def lineSplitSpec : ChangeSpec := { name := "lineSplit", fn := fun _ => fun
  | [d1, d2] => { results := [.lit (.bool true)], args := [d1, d2] }
  | _ => none }
def lineSplitRow : OpenClaim := { program := "ytbkgcdjbkoeejaadoor", sum := "9329cb86d3eadf6202eca24774c5667460406c7ec200f22cd0e68428c11822c9", func := "crucible/cruciblelaw6.LineSplit", spec := "lineSplit", inPlace := ["internal/bytealg.CountString", "internal/bytealg.IndexByteString", "internal/bytealg.IndexString", "internal/abi.NoEscape", "internal/bytealg.MakeNoZero"], named := ["internal/bytealg.MaxLen", "unicode/utf8.first", "unicode/utf8.acceptRanges"], apart := false, laid := [("unicode/utf8.acceptRanges", laid_unicode_utf8_acceptRanges), ("unicode/utf8.first", laid_unicode_utf8_first)] }
def LineSplitSaid : Prop := lineSplitRow.holds Tryd.pinned (OpenSpec.ofChange lineSplitSpec)

/-- ITS FALSE NEIGHBOUR: 'it returns false'. Refute it at one input. -/
def lineSplitWrong : ChangeSpec := { name := "lineSplit", fn := fun _ => fun
  | [d1, d2] => { results := [.lit (.bool false)], args := [d1, d2] }
  | _ => none }
def LineSplitWrongFalsely : Prop := lineSplitRow.holds Tryd.pinned (OpenSpec.ofChange lineSplitWrong)

/- THE SECOND FORM. 'bulk': how many values and letters a reading holds, each counted each time it is reached (what is shared counts as often as it is met; a slice's spare places count too). A statement '..UptoSaid' is the law's where the arguments, and the package variables that the reading takes, are together of bulk at most 1048576: NARROWER than '..Said'. Prove '..Said' where nothing that the law and all that it calls make is longer than what came in: it says more and counts as full. Else prove '..UptoSaid'. A law counts once. -/
mutual
def uptoBulk {H : Type} : DataW H → Nat
  | .lit (.string bytes) => bytes.length + 1
  | .lit _ => 1
  | .nil => 1
  | .ptr d => uptoBulk d + 1
  | .slice elems spare => uptoBulkAll elems + uptoBulkAll spare + 1
  | .agg parts => uptoBulkAll parts + 1
  | .iface _ d => uptoBulk d + 1
  | .map entries => uptoBulkEntries entries + 1
  | .held _ => 1
def uptoBulkAll {H : Type} : List (DataW H) → Nat
  | [] => 0
  | d :: r => uptoBulk d + uptoBulkAll r
def uptoBulkEntries {H : Type} : List (Lit × DataW H) → Nat
  | [] => 0
  | x :: r => uptoBulkEntry x + uptoBulkEntries r
def uptoBulkEntry {H : Type} : Lit × DataW H → Nat
  | (.string bytes, d) => bytes.length + uptoBulk d + 1
  | (_, d) => uptoBulk d + 1
 end
def uptoSmall : (H : Type) → List (DataW H) → Bool := fun _ ds => decide (uptoBulkAll ds ≤ 1048576)
def OpenSpec.upto (s : _root_.Go.ChangeSpec) : _root_.Go.OpenSpec := { _root_.Go.OpenSpec.ofChange s with cond := some uptoSmall }

/-- 'cruciblelaw6.Lineses', WHERE WHAT IT READS IS OF BULK AT MOST 1048576: true; the input reads as it did. -/
def linesesUptoRow : OpenClaim := { program := "ytbkgcdjbkoeejaadoor", sum := "9329cb86d3eadf6202eca24774c5667460406c7ec200f22cd0e68428c11822c9", func := "crucible/cruciblelaw6.Lineses", spec := "lineses", inPlace := ["internal/bytealg.CountString", "internal/bytealg.IndexByteString", "internal/bytealg.IndexString", "internal/abi.NoEscape", "internal/bytealg.MakeNoZero"], named := ["internal/bytealg.MaxLen", "unicode/utf8.first", "unicode/utf8.acceptRanges"], apart := false, laid := [("unicode/utf8.acceptRanges", laid_unicode_utf8_acceptRanges), ("unicode/utf8.first", laid_unicode_utf8_first)], narrowed := true }
def LinesesUptoSaid : Prop := linesesUptoRow.holds Tryd.pinned (OpenSpec.upto linesesSpec)

/-- 'cruciblelaw6.LineForms', WHERE WHAT IT READS IS OF BULK AT MOST 1048576: true; the input reads as it did. -/
def lineFormsUptoRow : OpenClaim := { program := "ytbkgcdjbkoeejaadoor", sum := "9329cb86d3eadf6202eca24774c5667460406c7ec200f22cd0e68428c11822c9", func := "crucible/cruciblelaw6.LineForms", spec := "lineForms", inPlace := ["internal/bytealg.CountString", "internal/bytealg.IndexByteString", "internal/bytealg.IndexString", "internal/abi.NoEscape", "internal/bytealg.MakeNoZero"], named := ["internal/bytealg.MaxLen", "unicode/utf8.first", "unicode/utf8.acceptRanges"], apart := false, laid := [("unicode/utf8.acceptRanges", laid_unicode_utf8_acceptRanges), ("unicode/utf8.first", laid_unicode_utf8_first)], narrowed := true }
def LineFormsUptoSaid : Prop := lineFormsUptoRow.holds Tryd.pinned (OpenSpec.upto lineFormsSpec)

/-- 'cruciblelaw6.LineRow', WHERE WHAT IT READS IS OF BULK AT MOST 1048576: true; the input reads as it did. -/
def lineRowUptoRow : OpenClaim := { program := "ytbkgcdjbkoeejaadoor", sum := "9329cb86d3eadf6202eca24774c5667460406c7ec200f22cd0e68428c11822c9", func := "crucible/cruciblelaw6.LineRow", spec := "lineRow", inPlace := ["internal/bytealg.CountString", "internal/bytealg.IndexByteString", "internal/bytealg.IndexString", "internal/abi.NoEscape", "internal/bytealg.MakeNoZero"], named := ["internal/bytealg.MaxLen", "unicode/utf8.first", "unicode/utf8.acceptRanges"], apart := false, laid := [("unicode/utf8.acceptRanges", laid_unicode_utf8_acceptRanges), ("unicode/utf8.first", laid_unicode_utf8_first)], narrowed := true }
def LineRowUptoSaid : Prop := lineRowUptoRow.holds Tryd.pinned (OpenSpec.upto lineRowSpec)

/-- 'cruciblelaw6.LineJoin', WHERE WHAT IT READS IS OF BULK AT MOST 1048576: true; the input reads as it did. -/
def lineJoinUptoRow : OpenClaim := { program := "ytbkgcdjbkoeejaadoor", sum := "9329cb86d3eadf6202eca24774c5667460406c7ec200f22cd0e68428c11822c9", func := "crucible/cruciblelaw6.LineJoin", spec := "lineJoin", inPlace := ["internal/bytealg.CountString", "internal/bytealg.IndexByteString", "internal/bytealg.IndexString", "internal/abi.NoEscape", "internal/bytealg.MakeNoZero"], named := ["internal/bytealg.MaxLen", "unicode/utf8.first", "unicode/utf8.acceptRanges"], apart := false, laid := [("unicode/utf8.acceptRanges", laid_unicode_utf8_acceptRanges), ("unicode/utf8.first", laid_unicode_utf8_first)], narrowed := true }
def LineJoinUptoSaid : Prop := lineJoinUptoRow.holds Tryd.pinned (OpenSpec.upto lineJoinSpec)

/-- 'cruciblelaw6.LineSplit', WHERE WHAT IT READS IS OF BULK AT MOST 1048576: true; the input reads as it did. -/
def lineSplitUptoRow : OpenClaim := { program := "ytbkgcdjbkoeejaadoor", sum := "9329cb86d3eadf6202eca24774c5667460406c7ec200f22cd0e68428c11822c9", func := "crucible/cruciblelaw6.LineSplit", spec := "lineSplit", inPlace := ["internal/bytealg.CountString", "internal/bytealg.IndexByteString", "internal/bytealg.IndexString", "internal/abi.NoEscape", "internal/bytealg.MakeNoZero"], named := ["internal/bytealg.MaxLen", "unicode/utf8.first", "unicode/utf8.acceptRanges"], apart := false, laid := [("unicode/utf8.acceptRanges", laid_unicode_utf8_acceptRanges), ("unicode/utf8.first", laid_unicode_utf8_first)], narrowed := true }
def LineSplitUptoSaid : Prop := lineSplitUptoRow.holds Tryd.pinned (OpenSpec.upto lineSplitSpec)

end Rows
end Go.Proofs.YtbkgcdjbkoeejaaDoor
