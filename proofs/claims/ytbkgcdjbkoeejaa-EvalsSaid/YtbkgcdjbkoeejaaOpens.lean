/- The kinds of this program's arguments, opened: binds. -/
import Derived.Test.YtbkgcdjbkoeejaaOpen
import Derived.Test.YtbkgcdjbkoeejaaP0
namespace Go.Proofs.Ytbkgcdjbkoeejaa.Print
open Go.RowKit Go.Proofs.YtbkgcdjbkoeejaaW.PrintWords Go.Proofs.YtbkgcdjbkoeejaaW.Opening
variable {H : Type} {enc : TypeId × Value → H} {w : World} {base : Nat} {spare : Nat → Bool} {held : Bool}

def Small34 (b : S34) : Prop := b.f0.size ≤ 140737488351232 ∧ b.f1.size ≤ 140737488351232
theorem opens34 : Opens enc Try.prog w base spare held 34 k34 Small34 :=
  opens_struct (fun p => (⟨p.1, p.2⟩ : S34)) Try.underlying34 (by kernel_rfl) (fun _ => rfl)
    (opensFs_cons rfl (by kernel_rfl) (by simp; decide) (opens_string Try.underlying9) (opensFs_one (by rfl) (by kernel_rfl) (opens_string Try.underlying9)))
def Small22 (l : List S34) : Prop := l.length * 32 ≤ 140737488351232 ∧ ∀ b ∈ l, Small34 b
theorem opens22 : Opens enc Try.prog w base spare held 22 (Kd.slice 34 k34) Small22 :=
  opens_slice Try.underlying22 (by kernel_rfl) opens34
end Go.Proofs.Ytbkgcdjbkoeejaa.Print
