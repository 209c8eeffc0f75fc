/- The kinds of this program's arguments, opened: whole numbers. -/
import Derived.Test.YtbkgcdjbkoeejaaDoorOpen
import Derived.Test.YtbkgcdjbkoeejaaDoorP0
namespace Go.Proofs.YtbkgcdjbkoeejaaDoor.Print
open Go.RowKit Go.Proofs.YtbkgcdjbkoeejaaDoorW.PrintWords Go.Proofs.YtbkgcdjbkoeejaaDoorW.Opening
variable {H : Type} {enc : TypeId × Value → H} {w : World} {base : Nat} {spare : Nat → Bool} {held : Bool}
def Small35 (l : List Int) : Prop := l.length * 8 ≤ 140737488351232 ∧ ∀ n ∈ l, (Lit.int .i64 n).wf = true
theorem opens35 : Opens enc Tryd.prog w base spare held 35 (Kd.slice 3 (Kd.int .i64)) Small35 :=
  opens_slice Tryd.underlying35 (by kernel_rfl) (opens_int Tryd.underlying3)
end Go.Proofs.YtbkgcdjbkoeejaaDoor.Print
