/- pieces.Cut answers of each text what the document's reference answers. -/
import Derived.Test.YtchkgljhklfhnaaQPieces
import Derived.Test.YtchkgljhklfhnaaPCruciblelaw3Pieces
namespace Go.Proofs.Ytchkgljhklfhnaa.Pure
open Go.RowKit Go.Proofs.Ytchkgljhklfhnaa.Print Go.Proofs.YtchkgljhklfhnaaW.PrintWords Go.Proofs.YtchkgljhklfhnaaW.PrintLast

theorem Pieces : cruciblelaw3_Pieces.Pure := by
  intro s hn
  obtain ⟨k, hk⟩ : ∃ k, 3000 ≤ k := ⟨_, Nat.le_refl _⟩
  refine ⟨k + 1, ?_⟩
  have hf := few_ref s
  obtain ⟨r, hr⟩ := spoil_some (refOf s).1 hf k (by omega)
  unfold cruciblelaw3_Pieces.f
  rw [cut_some s (by omega), refCut_some s (by omega)]
  simp only [Option.bind_some]
  rw [samePieces_self _ (by have := hf.1; omega) _ (by have := hf.1; omega)]
  simp only [Option.bind_some, num_eq]
  simp only [cruciblelaw3_Pieces.j0, if_true, bne_self_eq_false, Bool.false_eq_true, if_false]
  rw [hr, awake3 k (by omega)]
  rfl

end Go.Proofs.Ytchkgljhklfhnaa.Pure
