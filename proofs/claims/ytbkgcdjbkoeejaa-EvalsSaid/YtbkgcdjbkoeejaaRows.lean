/-
  No cell of these rows narrows 'for every input' (looked for: loops, veiled, ifaces, maps, wideKeys, modest, calm, conditions, laid).
  DERIVED. THE GIVEN ROWS OF THIS SEAT. 5 by the template 'for every input the law returns true; each argument reads behind the call as it read before'; 0 by the template 'total and deterministic' (their statements: YtbkgcdjbkoeejaaTotals.lean).
  GIVEN WITH THE SEED: the statements are not yours to turn. If you find one false, say at which input.
  Laid BY PROGRAM, IN A SANDBOX (cutbox-rows.mjs): the forced cells as the released guide's own fill.sh prints them over the translation 2e989247fa43c749… (all of the seat's roots in one cut). By AI agents, Wed Nov 11 2026. No macro, syntax, notation, axiom, sorry.
-/
import Derived.Test.YtbkgcdjbkoeejaaChecked
import GoSem.Claim
import GoSem.ClaimJoined
import GoSem.ClaimMapViews
import Derived.JoinedTies
import Derived.KernelRfl
namespace Go.Proofs.Ytbkgcdjbkoeejaa
/- THE CELL 'sum', in the pinned program and in every row, IS THE sha256 OF THE DUMP (.gsa) THAT YtbkgcdjbkoeejaaProg.lean LOADS. Nothing in Lean hashes anything: it is a label: what it is worth is what the hold of that sum in a sandbox is worth. -/
noncomputable def Try.pinned : Pinned := { name := "ytbkgcdjbkoeejaa", sum := "2e989247fa43c7493b32bda27cdb4d44d84d305bc4bd838e5f17a5fc70abb04d", checked := Try.checked }
namespace Rows
def none {H : Type} : Left H := { results := [], args := [] }

/-- 'cruciblelaw5.Evals': WHATEVER THE INPUT: true; the input reads as it did. -/
def evalsSpec : ChangeSpec := { name := "evals", fn := fun _ => fun
  | [d1, d2, d3] => { results := [.lit (.bool true)], args := [d1, d2, d3] }
  | _ => none }
def evalsRow : OpenClaim := { program := "ytbkgcdjbkoeejaa", sum := "2e989247fa43c7493b32bda27cdb4d44d84d305bc4bd838e5f17a5fc70abb04d", func := "crucible/cruciblelaw5.Evals", spec := "evals", inPlace := ["internal/bytealg.IndexByteString", "internal/bytealg.IndexString", "internal/abi.NoEscape"], unfollowed := true, recurses := true, named := ["internal/bytealg.MaxLen"], apart := false }
def EvalsSaid : Prop := evalsRow.holds Try.pinned (OpenSpec.ofChange evalsSpec)

/-- ITS FALSE NEIGHBOUR: 'it returns false'. Refute it at one input. -/
def evalsWrong : ChangeSpec := { name := "evals", fn := fun _ => fun
  | [d1, d2, d3] => { results := [.lit (.bool false)], args := [d1, d2, d3] }
  | _ => none }
def EvalsWrongFalsely : Prop := evalsRow.holds Try.pinned (OpenSpec.ofChange evalsWrong)

/-- 'cruciblelaw5.EvalForms': WHATEVER THE INPUT: true; the input reads as it did. -/
def evalFormsSpec : ChangeSpec := { name := "evalForms", fn := fun _ => fun
  | [] => { results := [.lit (.bool true)], args := [] }
  | _ => none }
def evalFormsRow : OpenClaim := { program := "ytbkgcdjbkoeejaa", sum := "2e989247fa43c7493b32bda27cdb4d44d84d305bc4bd838e5f17a5fc70abb04d", func := "crucible/cruciblelaw5.EvalForms", spec := "evalForms", inPlace := ["internal/bytealg.IndexByteString", "internal/bytealg.IndexString", "internal/abi.NoEscape"], unfollowed := true, recurses := true, named := ["internal/bytealg.MaxLen"], apart := false }
def EvalFormsSaid : Prop := evalFormsRow.holds Try.pinned (OpenSpec.ofChange evalFormsSpec)

/-- ITS FALSE NEIGHBOUR: 'it returns false'. Refute it at one input. -/
def evalFormsWrong : ChangeSpec := { name := "evalForms", fn := fun _ => fun
  | [] => { results := [.lit (.bool false)], args := [] }
  | _ => none }
def EvalFormsWrongFalsely : Prop := evalFormsRow.holds Try.pinned (OpenSpec.ofChange evalFormsWrong)

/-- 'cruciblelaw5.EvalPlain': WHATEVER THE INPUT: true; the input reads as it did. -/
def evalPlainSpec : ChangeSpec := { name := "evalPlain", fn := fun _ => fun
  | [d1, d2] => { results := [.lit (.bool true)], args := [d1, d2] }
  | _ => none }
def evalPlainRow : OpenClaim := { program := "ytbkgcdjbkoeejaa", sum := "2e989247fa43c7493b32bda27cdb4d44d84d305bc4bd838e5f17a5fc70abb04d", func := "crucible/cruciblelaw5.EvalPlain", spec := "evalPlain", inPlace := ["internal/bytealg.IndexByteString", "internal/bytealg.IndexString", "internal/abi.NoEscape"], unfollowed := true, recurses := true, named := ["internal/bytealg.MaxLen"], apart := false }
def EvalPlainSaid : Prop := evalPlainRow.holds Try.pinned (OpenSpec.ofChange evalPlainSpec)

/-- ITS FALSE NEIGHBOUR: 'it returns false'. Refute it at one input. -/
def evalPlainWrong : ChangeSpec := { name := "evalPlain", fn := fun _ => fun
  | [d1, d2] => { results := [.lit (.bool false)], args := [d1, d2] }
  | _ => none }
def EvalPlainWrongFalsely : Prop := evalPlainRow.holds Try.pinned (OpenSpec.ofChange evalPlainWrong)

/-- 'cruciblelaw5.EvalInner': WHATEVER THE INPUT: true; the input reads as it did. -/
def evalInnerSpec : ChangeSpec := { name := "evalInner", fn := fun _ => fun
  | [d1, d2] => { results := [.lit (.bool true)], args := [d1, d2] }
  | _ => none }
def evalInnerRow : OpenClaim := { program := "ytbkgcdjbkoeejaa", sum := "2e989247fa43c7493b32bda27cdb4d44d84d305bc4bd838e5f17a5fc70abb04d", func := "crucible/cruciblelaw5.EvalInner", spec := "evalInner", inPlace := ["internal/bytealg.IndexByteString", "internal/bytealg.IndexString", "internal/abi.NoEscape"], unfollowed := true, recurses := true, named := ["internal/bytealg.MaxLen"], apart := false }
def EvalInnerSaid : Prop := evalInnerRow.holds Try.pinned (OpenSpec.ofChange evalInnerSpec)

/-- ITS FALSE NEIGHBOUR: 'it returns false'. Refute it at one input. -/
def evalInnerWrong : ChangeSpec := { name := "evalInner", fn := fun _ => fun
  | [d1, d2] => { results := [.lit (.bool false)], args := [d1, d2] }
  | _ => none }
def EvalInnerWrongFalsely : Prop := evalInnerRow.holds Try.pinned (OpenSpec.ofChange evalInnerWrong)

/-- 'cruciblelaw5.EvalParts': WHATEVER THE INPUT: true; the input reads as it did. -/
def evalPartsSpec : ChangeSpec := { name := "evalParts", fn := fun _ => fun
  | [d1, d2, d3, d4] => { results := [.lit (.bool true)], args := [d1, d2, d3, d4] }
  | _ => none }
def evalPartsRow : OpenClaim := { program := "ytbkgcdjbkoeejaa", sum := "2e989247fa43c7493b32bda27cdb4d44d84d305bc4bd838e5f17a5fc70abb04d", func := "crucible/cruciblelaw5.EvalParts", spec := "evalParts", inPlace := ["internal/bytealg.IndexByteString", "internal/bytealg.IndexString", "internal/abi.NoEscape"], unfollowed := true, recurses := true, named := ["internal/bytealg.MaxLen"], apart := false }
def EvalPartsSaid : Prop := evalPartsRow.holds Try.pinned (OpenSpec.ofChange evalPartsSpec)

/-- ITS FALSE NEIGHBOUR: 'it returns false'. Refute it at one input. -/
def evalPartsWrong : ChangeSpec := { name := "evalParts", fn := fun _ => fun
  | [d1, d2, d3, d4] => { results := [.lit (.bool false)], args := [d1, d2, d3, d4] }
  | _ => none }
def EvalPartsWrongFalsely : Prop := evalPartsRow.holds Try.pinned (OpenSpec.ofChange evalPartsWrong)

/- THE SECOND FORM. 'bulk': how many values and letters a reading holds, each counted each time it is reached (what is shared counts as often as it is met; a slice's spare places count too). A statement '..UptoSaid' is the law's where the arguments, and the package variables that the reading takes, are together of bulk at most 1048576: NARROWER than '..Said'. Prove '..Said' where nothing that the law and all that it calls make is longer than what came in: it says more and counts as full. Else prove '..UptoSaid'. A law counts once. -/
mutual
def uptoBulk {H : Type} : DataW H → Nat
  | .lit (.string bytes) => bytes.length + 1
  | .lit _ => 1
  | .nil => 1
  | .ptr d => uptoBulk d + 1
  | .slice elems spare => uptoBulkAll elems + uptoBulkAll spare + 1
  | .agg parts => uptoBulkAll parts + 1
  | .iface _ d => uptoBulk d + 1
  | .map entries => uptoBulkEntries entries + 1
  | .held _ => 1
def uptoBulkAll {H : Type} : List (DataW H) → Nat
  | [] => 0
  | d :: r => uptoBulk d + uptoBulkAll r
def uptoBulkEntries {H : Type} : List (Lit × DataW H) → Nat
  | [] => 0
  | x :: r => uptoBulkEntry x + uptoBulkEntries r
def uptoBulkEntry {H : Type} : Lit × DataW H → Nat
  | (.string bytes, d) => bytes.length + uptoBulk d + 1
  | (_, d) => uptoBulk d + 1
 end
def uptoSmall : (H : Type) → List (DataW H) → Bool := fun _ ds => decide (uptoBulkAll ds ≤ 1048576)
def OpenSpec.upto (s : _root_.Go.ChangeSpec) : _root_.Go.OpenSpec := { _root_.Go.OpenSpec.ofChange s with cond := some uptoSmall }

/-- 'cruciblelaw5.Evals', WHERE WHAT IT READS IS OF BULK AT MOST 1048576: true; the input reads as it did. -/
def evalsUptoRow : OpenClaim := { program := "ytbkgcdjbkoeejaa", sum := "2e989247fa43c7493b32bda27cdb4d44d84d305bc4bd838e5f17a5fc70abb04d", func := "crucible/cruciblelaw5.Evals", spec := "evals", inPlace := ["internal/bytealg.IndexByteString", "internal/bytealg.IndexString", "internal/abi.NoEscape"], unfollowed := true, recurses := true, named := ["internal/bytealg.MaxLen"], apart := false, narrowed := true }
def EvalsUptoSaid : Prop := evalsUptoRow.holds Try.pinned (OpenSpec.upto evalsSpec)

/-- 'cruciblelaw5.EvalForms', WHERE WHAT IT READS IS OF BULK AT MOST 1048576: true; the input reads as it did. -/
def evalFormsUptoRow : OpenClaim := { program := "ytbkgcdjbkoeejaa", sum := "2e989247fa43c7493b32bda27cdb4d44d84d305bc4bd838e5f17a5fc70abb04d", func := "crucible/cruciblelaw5.EvalForms", spec := "evalForms", inPlace := ["internal/bytealg.IndexByteString", "internal/bytealg.IndexString", "internal/abi.NoEscape"], unfollowed := true, recurses := true, named := ["internal/bytealg.MaxLen"], apart := false, narrowed := true }
def EvalFormsUptoSaid : Prop := evalFormsUptoRow.holds Try.pinned (OpenSpec.upto evalFormsSpec)

/-- 'cruciblelaw5.EvalPlain', WHERE WHAT IT READS IS OF BULK AT MOST 1048576: true; the input reads as it did. -/
def evalPlainUptoRow : OpenClaim := { program := "ytbkgcdjbkoeejaa", sum := "2e989247fa43c7493b32bda27cdb4d44d84d305bc4bd838e5f17a5fc70abb04d", func := "crucible/cruciblelaw5.EvalPlain", spec := "evalPlain", inPlace := ["internal/bytealg.IndexByteString", "internal/bytealg.IndexString", "internal/abi.NoEscape"], unfollowed := true, recurses := true, named := ["internal/bytealg.MaxLen"], apart := false, narrowed := true }
def EvalPlainUptoSaid : Prop := evalPlainUptoRow.holds Try.pinned (OpenSpec.upto evalPlainSpec)

/-- 'cruciblelaw5.EvalInner', WHERE WHAT IT READS IS OF BULK AT MOST 1048576: true; the input reads as it did. -/
def evalInnerUptoRow : OpenClaim := { program := "ytbkgcdjbkoeejaa", sum := "2e989247fa43c7493b32bda27cdb4d44d84d305bc4bd838e5f17a5fc70abb04d", func := "crucible/cruciblelaw5.EvalInner", spec := "evalInner", inPlace := ["internal/bytealg.IndexByteString", "internal/bytealg.IndexString", "internal/abi.NoEscape"], unfollowed := true, recurses := true, named := ["internal/bytealg.MaxLen"], apart := false, narrowed := true }
def EvalInnerUptoSaid : Prop := evalInnerUptoRow.holds Try.pinned (OpenSpec.upto evalInnerSpec)

/-- 'cruciblelaw5.EvalParts', WHERE WHAT IT READS IS OF BULK AT MOST 1048576: true; the input reads as it did. -/
def evalPartsUptoRow : OpenClaim := { program := "ytbkgcdjbkoeejaa", sum := "2e989247fa43c7493b32bda27cdb4d44d84d305bc4bd838e5f17a5fc70abb04d", func := "crucible/cruciblelaw5.EvalParts", spec := "evalParts", inPlace := ["internal/bytealg.IndexByteString", "internal/bytealg.IndexString", "internal/abi.NoEscape"], unfollowed := true, recurses := true, named := ["internal/bytealg.MaxLen"], apart := false, narrowed := true }
def EvalPartsUptoSaid : Prop := evalPartsUptoRow.holds Try.pinned (OpenSpec.upto evalPartsSpec)

end Rows
end Go.Proofs.Ytbkgcdjbkoeejaa
