/-
  No cell of these rows narrows 'for every input' (looked for: loops, veiled, ifaces, maps, wideKeys, modest, calm, conditions, laid).
  DERIVED. THE GIVEN ROWS OF THIS SEAT. 12 by the template 'for every input the law returns true; each argument reads behind the call as it read before'; 0 by the template 'total and deterministic' (their statements: YtchkgljhklfhnaaTotals.lean).
  GIVEN WITH THE SEED: the statements are not yours to turn. If you find one false, say at which input.
  Laid BY PROGRAM, IN A SANDBOX (cutbox-rows.mjs): the forced cells as the released guide's own fill.sh prints them over the translation 071f8d3f191505fa… (all of the seat's roots in one cut). By AI agents, Wed Nov 11 2026. No macro, syntax, notation, axiom, sorry.
-/
import Derived.Test.YtchkgljhklfhnaaChecked
import GoSem.Claim
import GoSem.ClaimJoined
import GoSem.ClaimMapViews
import Derived.JoinedTies
import Derived.KernelRfl
namespace Go.Proofs.Ytchkgljhklfhnaa
/- THE CELL 'sum', in the pinned program and in every row, IS THE sha256 OF THE DUMP (.gsa) THAT YtchkgljhklfhnaaProg.lean LOADS. Nothing in Lean hashes anything: it is a label: what it is worth is what the hold of that sum in a sandbox is worth. -/
noncomputable def Try.pinned : Pinned := { name := "ytchkgljhklfhnaa", sum := "071f8d3f191505fa9070e991a3fc777a04d55e21c5341310506ef93510056919", checked := Try.checked }
namespace Rows
def none {H : Type} : Left H := { results := [], args := [] }

/-- 'cruciblelaw0.CrucibleNames': WHATEVER THE INPUT: true; the input reads as it did. -/
def crucibleNamesSpec : ChangeSpec := { name := "crucibleNames", fn := fun _ => fun
  | [] => { results := [.lit (.bool true)], args := [] }
  | _ => none }
def crucibleNamesRow : OpenClaim := { program := "ytchkgljhklfhnaa", sum := "071f8d3f191505fa9070e991a3fc777a04d55e21c5341310506ef93510056919", func := "crucible/cruciblelaw0.CrucibleNames", spec := "crucibleNames", apart := false }
def CrucibleNamesSaid : Prop := crucibleNamesRow.holds Try.pinned (OpenSpec.ofChange crucibleNamesSpec)

/-- ITS FALSE NEIGHBOUR: 'it returns false'. Refute it at one input. -/
def crucibleNamesWrong : ChangeSpec := { name := "crucibleNames", fn := fun _ => fun
  | [] => { results := [.lit (.bool false)], args := [] }
  | _ => none }
def CrucibleNamesWrongFalsely : Prop := crucibleNamesRow.holds Try.pinned (OpenSpec.ofChange crucibleNamesWrong)

/-- 'cruciblelaw1.Names': WHATEVER THE INPUT: true; the input reads as it did. -/
def namesSpec : ChangeSpec := { name := "names", fn := fun _ => fun
  | [d] => { results := [.lit (.bool true)], args := [d] }
  | _ => none }
def namesRow : OpenClaim := { program := "ytchkgljhklfhnaa", sum := "071f8d3f191505fa9070e991a3fc777a04d55e21c5341310506ef93510056919", func := "crucible/cruciblelaw1.Names", spec := "names", inPlace := ["internal/bytealg.IndexByteString", "internal/bytealg.IndexString"], unfollowed := true, recurses := true, named := ["internal/bytealg.MaxLen"], apart := false }
def NamesSaid : Prop := namesRow.holds Try.pinned (OpenSpec.ofChange namesSpec)

/-- ITS FALSE NEIGHBOUR: 'it returns false'. Refute it at one input. -/
def namesWrong : ChangeSpec := { name := "names", fn := fun _ => fun
  | [d] => { results := [.lit (.bool false)], args := [d] }
  | _ => none }
def NamesWrongFalsely : Prop := namesRow.holds Try.pinned (OpenSpec.ofChange namesWrong)

/-- 'cruciblelaw1.NameBytes': WHATEVER THE INPUT: true; the input reads as it did. -/
def nameBytesSpec : ChangeSpec := { name := "nameBytes", fn := fun _ => fun
  | [d1, d2] => { results := [.lit (.bool true)], args := [d1, d2] }
  | _ => none }
def nameBytesRow : OpenClaim := { program := "ytchkgljhklfhnaa", sum := "071f8d3f191505fa9070e991a3fc777a04d55e21c5341310506ef93510056919", func := "crucible/cruciblelaw1.NameBytes", spec := "nameBytes", inPlace := ["internal/bytealg.IndexByteString", "internal/bytealg.IndexString"], unfollowed := true, recurses := true, named := ["internal/bytealg.MaxLen"], apart := false }
def NameBytesSaid : Prop := nameBytesRow.holds Try.pinned (OpenSpec.ofChange nameBytesSpec)

/-- ITS FALSE NEIGHBOUR: 'it returns false'. Refute it at one input. -/
def nameBytesWrong : ChangeSpec := { name := "nameBytes", fn := fun _ => fun
  | [d1, d2] => { results := [.lit (.bool false)], args := [d1, d2] }
  | _ => none }
def NameBytesWrongFalsely : Prop := nameBytesRow.holds Try.pinned (OpenSpec.ofChange nameBytesWrong)

/-- 'cruciblelaw1.NameParts': WHATEVER THE INPUT: true; the input reads as it did. -/
def namePartsSpec : ChangeSpec := { name := "nameParts", fn := fun _ => fun
  | [d1, d2] => { results := [.lit (.bool true)], args := [d1, d2] }
  | _ => none }
def namePartsRow : OpenClaim := { program := "ytchkgljhklfhnaa", sum := "071f8d3f191505fa9070e991a3fc777a04d55e21c5341310506ef93510056919", func := "crucible/cruciblelaw1.NameParts", spec := "nameParts", inPlace := ["internal/bytealg.IndexByteString", "internal/bytealg.IndexString"], unfollowed := true, recurses := true, named := ["internal/bytealg.MaxLen"], apart := false }
def NamePartsSaid : Prop := namePartsRow.holds Try.pinned (OpenSpec.ofChange namePartsSpec)

/-- ITS FALSE NEIGHBOUR: 'it returns false'. Refute it at one input. -/
def namePartsWrong : ChangeSpec := { name := "nameParts", fn := fun _ => fun
  | [d1, d2] => { results := [.lit (.bool false)], args := [d1, d2] }
  | _ => none }
def NamePartsWrongFalsely : Prop := namePartsRow.holds Try.pinned (OpenSpec.ofChange namePartsWrong)

/-- 'cruciblelaw4.Scopes': WHATEVER THE INPUT: true; the input reads as it did. -/
def scopesSpec : ChangeSpec := { name := "scopes", fn := fun _ => fun
  | [d1, d2, d3] => { results := [.lit (.bool true)], args := [d1, d2, d3] }
  | _ => none }
def scopesRow : OpenClaim := { program := "ytchkgljhklfhnaa", sum := "071f8d3f191505fa9070e991a3fc777a04d55e21c5341310506ef93510056919", func := "crucible/cruciblelaw4.Scopes", spec := "scopes", inPlace := ["internal/bytealg.IndexByteString", "internal/bytealg.IndexString"], unfollowed := true, recurses := true, named := ["internal/bytealg.MaxLen"], apart := false }
def ScopesSaid : Prop := scopesRow.holds Try.pinned (OpenSpec.ofChange scopesSpec)

/-- ITS FALSE NEIGHBOUR: 'it returns false'. Refute it at one input. -/
def scopesWrong : ChangeSpec := { name := "scopes", fn := fun _ => fun
  | [d1, d2, d3] => { results := [.lit (.bool false)], args := [d1, d2, d3] }
  | _ => none }
def ScopesWrongFalsely : Prop := scopesRow.holds Try.pinned (OpenSpec.ofChange scopesWrong)

/-- 'cruciblelaw4.ScopeForms': WHATEVER THE INPUT: true; the input reads as it did. -/
def scopeFormsSpec : ChangeSpec := { name := "scopeForms", fn := fun _ => fun
  | [d1, d2] => { results := [.lit (.bool true)], args := [d1, d2] }
  | _ => none }
def scopeFormsRow : OpenClaim := { program := "ytchkgljhklfhnaa", sum := "071f8d3f191505fa9070e991a3fc777a04d55e21c5341310506ef93510056919", func := "crucible/cruciblelaw4.ScopeForms", spec := "scopeForms", inPlace := ["internal/bytealg.IndexByteString", "internal/bytealg.IndexString"], unfollowed := true, recurses := true, named := ["internal/bytealg.MaxLen"], apart := false }
def ScopeFormsSaid : Prop := scopeFormsRow.holds Try.pinned (OpenSpec.ofChange scopeFormsSpec)

/-- ITS FALSE NEIGHBOUR: 'it returns false'. Refute it at one input. -/
def scopeFormsWrong : ChangeSpec := { name := "scopeForms", fn := fun _ => fun
  | [d1, d2] => { results := [.lit (.bool false)], args := [d1, d2] }
  | _ => none }
def ScopeFormsWrongFalsely : Prop := scopeFormsRow.holds Try.pinned (OpenSpec.ofChange scopeFormsWrong)

/-- 'cruciblelaw4.ScopeRow': WHATEVER THE INPUT: true; the input reads as it did. -/
def scopeRowSpec : ChangeSpec := { name := "scopeRow", fn := fun _ => fun
  | [d] => { results := [.lit (.bool true)], args := [d] }
  | _ => none }
def scopeRowRow : OpenClaim := { program := "ytchkgljhklfhnaa", sum := "071f8d3f191505fa9070e991a3fc777a04d55e21c5341310506ef93510056919", func := "crucible/cruciblelaw4.ScopeRow", spec := "scopeRow", inPlace := ["internal/bytealg.IndexByteString", "internal/bytealg.IndexString"], unfollowed := true, recurses := true, named := ["internal/bytealg.MaxLen"], apart := false }
def ScopeRowSaid : Prop := scopeRowRow.holds Try.pinned (OpenSpec.ofChange scopeRowSpec)

/-- ITS FALSE NEIGHBOUR: 'it returns false'. Refute it at one input. -/
def scopeRowWrong : ChangeSpec := { name := "scopeRow", fn := fun _ => fun
  | [d] => { results := [.lit (.bool false)], args := [d] }
  | _ => none }
def ScopeRowWrongFalsely : Prop := scopeRowRow.holds Try.pinned (OpenSpec.ofChange scopeRowWrong)

/-- 'cruciblelaw4.ScopeOther': WHATEVER THE INPUT: true; the input reads as it did. -/
def scopeOtherSpec : ChangeSpec := { name := "scopeOther", fn := fun _ => fun
  | [d1, d2, d3, d4] => { results := [.lit (.bool true)], args := [d1, d2, d3, d4] }
  | _ => none }
def scopeOtherRow : OpenClaim := { program := "ytchkgljhklfhnaa", sum := "071f8d3f191505fa9070e991a3fc777a04d55e21c5341310506ef93510056919", func := "crucible/cruciblelaw4.ScopeOther", spec := "scopeOther", inPlace := ["internal/bytealg.IndexByteString", "internal/bytealg.IndexString"], unfollowed := true, recurses := true, named := ["internal/bytealg.MaxLen"], apart := false }
def ScopeOtherSaid : Prop := scopeOtherRow.holds Try.pinned (OpenSpec.ofChange scopeOtherSpec)

/-- ITS FALSE NEIGHBOUR: 'it returns false'. Refute it at one input. -/
def scopeOtherWrong : ChangeSpec := { name := "scopeOther", fn := fun _ => fun
  | [d1, d2, d3, d4] => { results := [.lit (.bool false)], args := [d1, d2, d3, d4] }
  | _ => none }
def ScopeOtherWrongFalsely : Prop := scopeOtherRow.holds Try.pinned (OpenSpec.ofChange scopeOtherWrong)

/-- 'cruciblelaw3.Pieces': WHATEVER THE INPUT: true; the input reads as it did. -/
def piecesSpec : ChangeSpec := { name := "pieces", fn := fun _ => fun
  | [d] => { results := [.lit (.bool true)], args := [d] }
  | _ => none }
def piecesRow : OpenClaim := { program := "ytchkgljhklfhnaa", sum := "071f8d3f191505fa9070e991a3fc777a04d55e21c5341310506ef93510056919", func := "crucible/cruciblelaw3.Pieces", spec := "pieces", inPlace := ["internal/bytealg.IndexByteString", "internal/bytealg.IndexString"], named := ["internal/bytealg.MaxLen"], apart := false }
def PiecesSaid : Prop := piecesRow.holds Try.pinned (OpenSpec.ofChange piecesSpec)

/-- ITS FALSE NEIGHBOUR: 'it returns false'. Refute it at one input. -/
def piecesWrong : ChangeSpec := { name := "pieces", fn := fun _ => fun
  | [d] => { results := [.lit (.bool false)], args := [d] }
  | _ => none }
def PiecesWrongFalsely : Prop := piecesRow.holds Try.pinned (OpenSpec.ofChange piecesWrong)

/-- 'cruciblelaw3.PieceForms': WHATEVER THE INPUT: true; the input reads as it did. -/
def pieceFormsSpec : ChangeSpec := { name := "pieceForms", fn := fun _ => fun
  | [d1, d2] => { results := [.lit (.bool true)], args := [d1, d2] }
  | _ => none }
def pieceFormsRow : OpenClaim := { program := "ytchkgljhklfhnaa", sum := "071f8d3f191505fa9070e991a3fc777a04d55e21c5341310506ef93510056919", func := "crucible/cruciblelaw3.PieceForms", spec := "pieceForms", inPlace := ["internal/bytealg.IndexByteString", "internal/bytealg.IndexString"], named := ["internal/bytealg.MaxLen"], apart := false }
def PieceFormsSaid : Prop := pieceFormsRow.holds Try.pinned (OpenSpec.ofChange pieceFormsSpec)

/-- ITS FALSE NEIGHBOUR: 'it returns false'. Refute it at one input. -/
def pieceFormsWrong : ChangeSpec := { name := "pieceForms", fn := fun _ => fun
  | [d1, d2] => { results := [.lit (.bool false)], args := [d1, d2] }
  | _ => none }
def PieceFormsWrongFalsely : Prop := pieceFormsRow.holds Try.pinned (OpenSpec.ofChange pieceFormsWrong)

/-- 'cruciblelaw3.PieceJoin': WHATEVER THE INPUT: true; the input reads as it did. -/
def pieceJoinSpec : ChangeSpec := { name := "pieceJoin", fn := fun _ => fun
  | [d] => { results := [.lit (.bool true)], args := [d] }
  | _ => none }
def pieceJoinRow : OpenClaim := { program := "ytchkgljhklfhnaa", sum := "071f8d3f191505fa9070e991a3fc777a04d55e21c5341310506ef93510056919", func := "crucible/cruciblelaw3.PieceJoin", spec := "pieceJoin", inPlace := ["internal/bytealg.IndexByteString", "internal/bytealg.IndexString"], named := ["internal/bytealg.MaxLen"], apart := false }
def PieceJoinSaid : Prop := pieceJoinRow.holds Try.pinned (OpenSpec.ofChange pieceJoinSpec)

/-- ITS FALSE NEIGHBOUR: 'it returns false'. Refute it at one input. -/
def pieceJoinWrong : ChangeSpec := { name := "pieceJoin", fn := fun _ => fun
  | [d] => { results := [.lit (.bool false)], args := [d] }
  | _ => none }
def PieceJoinWrongFalsely : Prop := pieceJoinRow.holds Try.pinned (OpenSpec.ofChange pieceJoinWrong)

/-- 'cruciblelaw3.PieceTwo': WHATEVER THE INPUT: true; the input reads as it did. -/
def pieceTwoSpec : ChangeSpec := { name := "pieceTwo", fn := fun _ => fun
  | [d1, d2] => { results := [.lit (.bool true)], args := [d1, d2] }
  | _ => none }
def pieceTwoRow : OpenClaim := { program := "ytchkgljhklfhnaa", sum := "071f8d3f191505fa9070e991a3fc777a04d55e21c5341310506ef93510056919", func := "crucible/cruciblelaw3.PieceTwo", spec := "pieceTwo", inPlace := ["internal/bytealg.IndexByteString", "internal/bytealg.IndexString"], named := ["internal/bytealg.MaxLen"], apart := false }
def PieceTwoSaid : Prop := pieceTwoRow.holds Try.pinned (OpenSpec.ofChange pieceTwoSpec)

/-- ITS FALSE NEIGHBOUR: 'it returns false'. Refute it at one input. -/
def pieceTwoWrong : ChangeSpec := { name := "pieceTwo", fn := fun _ => fun
  | [d1, d2] => { results := [.lit (.bool false)], args := [d1, d2] }
  | _ => none }
def PieceTwoWrongFalsely : Prop := pieceTwoRow.holds Try.pinned (OpenSpec.ofChange pieceTwoWrong)

/- THE SECOND FORM. 'bulk': how many values and letters a reading holds, each counted each time it is reached (what is shared counts as often as it is met; a slice's spare places count too). A statement '..UptoSaid' is the law's where the arguments, and the package variables that the reading takes, are together of bulk at most 1048576: NARROWER than '..Said'. Prove '..Said' where nothing that the law and all that it calls make is longer than what came in: it says more and counts as full. Else prove '..UptoSaid'. A law counts once. -/
mutual
def uptoBulk {H : Type} : DataW H → Nat
  | .lit (.string bytes) => bytes.length + 1
  | .lit _ => 1
  | .nil => 1
  | .ptr d => uptoBulk d + 1
  | .slice elems spare => uptoBulkAll elems + uptoBulkAll spare + 1
  | .agg parts => uptoBulkAll parts + 1
  | .iface _ d => uptoBulk d + 1
  | .map entries => uptoBulkEntries entries + 1
  | .held _ => 1
def uptoBulkAll {H : Type} : List (DataW H) → Nat
  | [] => 0
  | d :: r => uptoBulk d + uptoBulkAll r
def uptoBulkEntries {H : Type} : List (Lit × DataW H) → Nat
  | [] => 0
  | x :: r => uptoBulkEntry x + uptoBulkEntries r
def uptoBulkEntry {H : Type} : Lit × DataW H → Nat
  | (.string bytes, d) => bytes.length + uptoBulk d + 1
  | (_, d) => uptoBulk d + 1
 end
def uptoSmall : (H : Type) → List (DataW H) → Bool := fun _ ds => decide (uptoBulkAll ds ≤ 1048576)
def OpenSpec.upto (s : _root_.Go.ChangeSpec) : _root_.Go.OpenSpec := { _root_.Go.OpenSpec.ofChange s with cond := some uptoSmall }

/-- 'cruciblelaw0.CrucibleNames', WHERE WHAT IT READS IS OF BULK AT MOST 1048576: true; the input reads as it did. -/
def crucibleNamesUptoRow : OpenClaim := { program := "ytchkgljhklfhnaa", sum := "071f8d3f191505fa9070e991a3fc777a04d55e21c5341310506ef93510056919", func := "crucible/cruciblelaw0.CrucibleNames", spec := "crucibleNames", apart := false, narrowed := true }
def CrucibleNamesUptoSaid : Prop := crucibleNamesUptoRow.holds Try.pinned (OpenSpec.upto crucibleNamesSpec)

/-- 'cruciblelaw1.Names', WHERE WHAT IT READS IS OF BULK AT MOST 1048576: true; the input reads as it did. -/
def namesUptoRow : OpenClaim := { program := "ytchkgljhklfhnaa", sum := "071f8d3f191505fa9070e991a3fc777a04d55e21c5341310506ef93510056919", func := "crucible/cruciblelaw1.Names", spec := "names", inPlace := ["internal/bytealg.IndexByteString", "internal/bytealg.IndexString"], unfollowed := true, recurses := true, named := ["internal/bytealg.MaxLen"], apart := false, narrowed := true }
def NamesUptoSaid : Prop := namesUptoRow.holds Try.pinned (OpenSpec.upto namesSpec)

/-- 'cruciblelaw1.NameBytes', WHERE WHAT IT READS IS OF BULK AT MOST 1048576: true; the input reads as it did. -/
def nameBytesUptoRow : OpenClaim := { program := "ytchkgljhklfhnaa", sum := "071f8d3f191505fa9070e991a3fc777a04d55e21c5341310506ef93510056919", func := "crucible/cruciblelaw1.NameBytes", spec := "nameBytes", inPlace := ["internal/bytealg.IndexByteString", "internal/bytealg.IndexString"], unfollowed := true, recurses := true, named := ["internal/bytealg.MaxLen"], apart := false, narrowed := true }
def NameBytesUptoSaid : Prop := nameBytesUptoRow.holds Try.pinned (OpenSpec.upto nameBytesSpec)

/-- 'cruciblelaw1.NameParts', WHERE WHAT IT READS IS OF BULK AT MOST 1048576: true; the input reads as it did. -/
def namePartsUptoRow : OpenClaim := { program := "ytchkgljhklfhnaa", sum := "071f8d3f191505fa9070e991a3fc777a04d55e21c5341310506ef93510056919", func := "crucible/cruciblelaw1.NameParts", spec := "nameParts", inPlace := ["internal/bytealg.IndexByteString", "internal/bytealg.IndexString"], unfollowed := true, recurses := true, named := ["internal/bytealg.MaxLen"], apart := false, narrowed := true }
def NamePartsUptoSaid : Prop := namePartsUptoRow.holds Try.pinned (OpenSpec.upto namePartsSpec)

/-- 'cruciblelaw4.Scopes', WHERE WHAT IT READS IS OF BULK AT MOST 1048576: true; the input reads as it did. -/
def scopesUptoRow : OpenClaim := { program := "ytchkgljhklfhnaa", sum := "071f8d3f191505fa9070e991a3fc777a04d55e21c5341310506ef93510056919", func := "crucible/cruciblelaw4.Scopes", spec := "scopes", inPlace := ["internal/bytealg.IndexByteString", "internal/bytealg.IndexString"], unfollowed := true, recurses := true, named := ["internal/bytealg.MaxLen"], apart := false, narrowed := true }
def ScopesUptoSaid : Prop := scopesUptoRow.holds Try.pinned (OpenSpec.upto scopesSpec)

/-- 'cruciblelaw4.ScopeForms', WHERE WHAT IT READS IS OF BULK AT MOST 1048576: true; the input reads as it did. -/
def scopeFormsUptoRow : OpenClaim := { program := "ytchkgljhklfhnaa", sum := "071f8d3f191505fa9070e991a3fc777a04d55e21c5341310506ef93510056919", func := "crucible/cruciblelaw4.ScopeForms", spec := "scopeForms", inPlace := ["internal/bytealg.IndexByteString", "internal/bytealg.IndexString"], unfollowed := true, recurses := true, named := ["internal/bytealg.MaxLen"], apart := false, narrowed := true }
def ScopeFormsUptoSaid : Prop := scopeFormsUptoRow.holds Try.pinned (OpenSpec.upto scopeFormsSpec)

/-- 'cruciblelaw4.ScopeRow', WHERE WHAT IT READS IS OF BULK AT MOST 1048576: true; the input reads as it did. -/
def scopeRowUptoRow : OpenClaim := { program := "ytchkgljhklfhnaa", sum := "071f8d3f191505fa9070e991a3fc777a04d55e21c5341310506ef93510056919", func := "crucible/cruciblelaw4.ScopeRow", spec := "scopeRow", inPlace := ["internal/bytealg.IndexByteString", "internal/bytealg.IndexString"], unfollowed := true, recurses := true, named := ["internal/bytealg.MaxLen"], apart := false, narrowed := true }
def ScopeRowUptoSaid : Prop := scopeRowUptoRow.holds Try.pinned (OpenSpec.upto scopeRowSpec)

/-- 'cruciblelaw4.ScopeOther', WHERE WHAT IT READS IS OF BULK AT MOST 1048576: true; the input reads as it did. -/
def scopeOtherUptoRow : OpenClaim := { program := "ytchkgljhklfhnaa", sum := "071f8d3f191505fa9070e991a3fc777a04d55e21c5341310506ef93510056919", func := "crucible/cruciblelaw4.ScopeOther", spec := "scopeOther", inPlace := ["internal/bytealg.IndexByteString", "internal/bytealg.IndexString"], unfollowed := true, recurses := true, named := ["internal/bytealg.MaxLen"], apart := false, narrowed := true }
def ScopeOtherUptoSaid : Prop := scopeOtherUptoRow.holds Try.pinned (OpenSpec.upto scopeOtherSpec)

/-- 'cruciblelaw3.Pieces', WHERE WHAT IT READS IS OF BULK AT MOST 1048576: true; the input reads as it did. -/
def piecesUptoRow : OpenClaim := { program := "ytchkgljhklfhnaa", sum := "071f8d3f191505fa9070e991a3fc777a04d55e21c5341310506ef93510056919", func := "crucible/cruciblelaw3.Pieces", spec := "pieces", inPlace := ["internal/bytealg.IndexByteString", "internal/bytealg.IndexString"], named := ["internal/bytealg.MaxLen"], apart := false, narrowed := true }
def PiecesUptoSaid : Prop := piecesUptoRow.holds Try.pinned (OpenSpec.upto piecesSpec)

/-- 'cruciblelaw3.PieceForms', WHERE WHAT IT READS IS OF BULK AT MOST 1048576: true; the input reads as it did. -/
def pieceFormsUptoRow : OpenClaim := { program := "ytchkgljhklfhnaa", sum := "071f8d3f191505fa9070e991a3fc777a04d55e21c5341310506ef93510056919", func := "crucible/cruciblelaw3.PieceForms", spec := "pieceForms", inPlace := ["internal/bytealg.IndexByteString", "internal/bytealg.IndexString"], named := ["internal/bytealg.MaxLen"], apart := false, narrowed := true }
def PieceFormsUptoSaid : Prop := pieceFormsUptoRow.holds Try.pinned (OpenSpec.upto pieceFormsSpec)

/-- 'cruciblelaw3.PieceJoin', WHERE WHAT IT READS IS OF BULK AT MOST 1048576: true; the input reads as it did. -/
def pieceJoinUptoRow : OpenClaim := { program := "ytchkgljhklfhnaa", sum := "071f8d3f191505fa9070e991a3fc777a04d55e21c5341310506ef93510056919", func := "crucible/cruciblelaw3.PieceJoin", spec := "pieceJoin", inPlace := ["internal/bytealg.IndexByteString", "internal/bytealg.IndexString"], named := ["internal/bytealg.MaxLen"], apart := false, narrowed := true }
def PieceJoinUptoSaid : Prop := pieceJoinUptoRow.holds Try.pinned (OpenSpec.upto pieceJoinSpec)

/-- 'cruciblelaw3.PieceTwo', WHERE WHAT IT READS IS OF BULK AT MOST 1048576: true; the input reads as it did. -/
def pieceTwoUptoRow : OpenClaim := { program := "ytchkgljhklfhnaa", sum := "071f8d3f191505fa9070e991a3fc777a04d55e21c5341310506ef93510056919", func := "crucible/cruciblelaw3.PieceTwo", spec := "pieceTwo", inPlace := ["internal/bytealg.IndexByteString", "internal/bytealg.IndexString"], named := ["internal/bytealg.MaxLen"], apart := false, narrowed := true }
def PieceTwoUptoSaid : Prop := pieceTwoUptoRow.holds Try.pinned (OpenSpec.upto pieceTwoSpec)

end Rows
end Go.Proofs.Ytchkgljhklfhnaa
