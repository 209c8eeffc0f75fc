/- Every error, limit and kind has the document's number: the printed function of the law answers true, without a condition. -/
import Derived.Test.YtchkgljhklfhnaaPCrucibleNamesx1
namespace Go.Proofs.Ytchkgljhklfhnaa.Pure
open Go.RowKit Go.Proofs.Ytchkgljhklfhnaa.PCrucibleNames Go.Proofs.YtchkgljhklfhnaaW.PrintWords Go.Proofs.YtchkgljhklfhnaaW.PrintLast

theorem CrucibleNames : cruciblelaw0_CrucibleNames.Pure := by
  unfold cruciblelaw0_CrucibleNames.Pure
  decide +kernel

end Go.Proofs.Ytchkgljhklfhnaa.Pure
