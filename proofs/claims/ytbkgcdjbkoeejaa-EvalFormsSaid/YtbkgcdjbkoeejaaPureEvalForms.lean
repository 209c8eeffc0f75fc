/- EvalForms, plain: one closed sentence, reckoned by the kernel. -/
import Derived.Test.YtbkgcdjbkoeejaaPCruciblelaw5EvalForms
namespace Go.Proofs.Ytbkgcdjbkoeejaa.Pure
open Go.RowKit Go.Proofs.Ytbkgcdjbkoeejaa.Print Go.Proofs.YtbkgcdjbkoeejaaW.PrintWords Go.Proofs.YtbkgcdjbkoeejaaW.PrintLast

theorem EvalForms : cruciblelaw5_EvalForms.Pure := ⟨300, by decide +kernel⟩

end Go.Proofs.Ytbkgcdjbkoeejaa.Pure
