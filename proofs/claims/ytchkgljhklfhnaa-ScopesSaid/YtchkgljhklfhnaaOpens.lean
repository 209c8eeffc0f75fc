/- The kinds of this program's arguments, opened: binds. -/
import Derived.Test.YtchkgljhklfhnaaOpen
import Derived.Test.YtchkgljhklfhnaaP0
namespace Go.Proofs.Ytchkgljhklfhnaa.Print
open Go.RowKit Go.Proofs.YtchkgljhklfhnaaW.PrintWords Go.Proofs.YtchkgljhklfhnaaW.Opening
variable {H : Type} {enc : TypeId × Value → H} {w : World} {base : Nat} {spare : Nat → Bool} {held : Bool}

def Small42 (b : S42) : Prop := b.f0.size ≤ 140737488351232 ∧ b.f1.size ≤ 140737488351232
theorem opens42 : Opens enc Try.prog w base spare held 42 k42 Small42 :=
  opens_struct (fun p => (⟨p.1, p.2⟩ : S42)) Try.underlying42 (by kernel_rfl) (fun _ => rfl)
    (opensFs_cons rfl (by kernel_rfl) (by simp; decide) (opens_string Try.underlying9) (opensFs_one (by rfl) (by kernel_rfl) (opens_string Try.underlying9)))
def Small30 (l : List S42) : Prop := l.length * 32 ≤ 140737488351232 ∧ ∀ b ∈ l, Small42 b
theorem opens30 : Opens enc Try.prog w base spare held 30 (Kd.slice 42 k42) Small30 :=
  opens_slice Try.underlying30 (by kernel_rfl) opens42
end Go.Proofs.Ytchkgljhklfhnaa.Print
