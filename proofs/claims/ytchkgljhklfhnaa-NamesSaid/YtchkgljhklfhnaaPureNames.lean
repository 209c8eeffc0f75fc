/- name.May answers of each text what the document's reference answers, without a condition but the length that Go has. -/
import Derived.Test.YtchkgljhklfhnaaQName
namespace Go.Proofs.Ytchkgljhklfhnaa.Pure
open Go.RowKit Go.Proofs.Ytchkgljhklfhnaa.Print Go.Proofs.YtchkgljhklfhnaaW.PrintWords Go.Proofs.YtchkgljhklfhnaaW.PrintLast

theorem Names : cruciblelaw1_Names.Pure := by
  intro s hn
  refine ⟨s.size + 1, ?_⟩
  unfold cruciblelaw1_Names.f
  rw [num_eq, may_eq, refNameMay s (by omega) _ (by omega), awake_name]
  simp

end Go.Proofs.Ytchkgljhklfhnaa.Pure
