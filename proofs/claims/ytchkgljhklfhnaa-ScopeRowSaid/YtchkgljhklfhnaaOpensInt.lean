/- The kinds of this program's arguments, opened: whole numbers. -/
import Derived.Test.YtchkgljhklfhnaaOpen
import Derived.Test.YtchkgljhklfhnaaP0
namespace Go.Proofs.Ytchkgljhklfhnaa.Print
open Go.RowKit Go.Proofs.YtchkgljhklfhnaaW.PrintWords Go.Proofs.YtchkgljhklfhnaaW.Opening
variable {H : Type} {enc : TypeId × Value → H} {w : World} {base : Nat} {spare : Nat → Bool} {held : Bool}
def Small44 (l : List Int) : Prop := l.length * 8 ≤ 140737488351232 ∧ ∀ n ∈ l, (Lit.int .i64 n).wf = true
theorem opens44 : Opens enc Try.prog w base spare held 44 (Kd.slice 3 (Kd.int .i64)) Small44 :=
  opens_slice Try.underlying44 (by kernel_rfl) (opens_int Try.underlying3)
end Go.Proofs.Ytchkgljhklfhnaa.Print
