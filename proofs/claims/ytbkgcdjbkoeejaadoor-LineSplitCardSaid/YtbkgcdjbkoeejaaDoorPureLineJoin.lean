/- LineJoin, plain: two texts of lines, one behind the other, are the lines of both. -/
import Derived.Test.YtbkgcdjbkoeejaaDoorQLines
import Derived.Test.YtbkgcdjbkoeejaaDoorPCruciblelaw6LineJoin
namespace Go.Proofs.YtbkgcdjbkoeejaaDoor.Pure
open Go.RowKit Go.Lib Go.Proofs.YtbkgcdjbkoeejaaDoor.Print Go.Proofs.YtbkgcdjbkoeejaaDoorW.PrintWords Go.Proofs.YtbkgcdjbkoeejaaDoorW.PrintLast

theorem wrap_sum (a b : Int) (h0 : 0 ≤ a) (h1 : a ≤ 1000000) (h2 : 0 ≤ b) (h3 : b ≤ 1000000) : wrap64 (a + b) = a + b := by unfold wrap64; omega
theorem cut_f {s : ByteArray} (h : s.size ≤ 9223372036854775807) : lines_Cut.f s = some (linesCut s) := by unfold lines_Cut.f; rw [if_pos h]
theorem rows_le (rs : List ByteArray) : rs.length ≤ (unrows rs).length := by
  induction rs with
  | nil => simp
  | cons r rs ih => rw [unrows_len]; simp; omega
/-- The lines of two texts. -/
theorem join_two {s t : ByteArray} (hs : (linesCut s).2 = 0) (ht : (linesCut t).2 = 0) (h48 : s.size + t.size ≤ 2048) : linesCut (s ++ t) = ((linesCut s).1 ++ (linesCut t).1, 0) := by
  obtain ⟨rs, e1, n1, z1, p1, c1⟩ := cut_ok hs
  obtain ⟨ts, e2, n2, z2, p2, c2⟩ := cut_ok ht
  have hn : NoNl (rs ++ ts) := fun r hr => by
    rcases List.mem_append.1 hr with h | h
    · exact n1 r h
    · exact n2 r h
  have hu : s ++ t = U (rs ++ ts) := by rw [e1, e2, U_app]
  have hp : plainRows (rs ++ ts) = true := by
    unfold plainRows at *
    rw [List.all_append, p1, p2]
    rfl
  have hz : (U (rs ++ ts)).size ≤ 2048 := by rw [← hu, ByteArray.size_append]; exact h48
  rw [hu, cut_rows _ hn, if_pos ⟨hz, hp⟩, List.length_append, go_app ts ts.length (Nat.le_refl _) rs.length rs [] (Nat.le_refl _) (by rw [← c1]; exact hs), go_out ts.length ts, ← c2, if_pos ht, ← c1]

theorem LineJoin : cruciblelaw6_LineJoin.Pure := by
  intro s t ws wt
  obtain ⟨K, hK⟩ : ∃ K : Nat, 10000 ≤ K := ⟨_, Nat.le_refl _⟩
  refine ⟨K + 1, ?_⟩
  unfold cruciblelaw6_LineJoin.f
  rw [awake6 (K + 1) (by omega)]
  simp only [Option.bind_some, if_true]
  rw [cut_f (by omega), cut_f (by omega), cut_f (by rw [ByteArray.size_append]; omega)]
  simp only [Option.bind_some, num_eq]
  rw [if_pos (by omega)]
  by_cases hs : (linesCut s).2 = 0
  · rw [if_pos hs]
    by_cases ht : (linesCut t).2 = 0
    · rw [if_pos ht]
      obtain ⟨rs, e1, -, z1, -, c1⟩ := cut_ok hs
      obtain ⟨ts, e2, -, z2, -, c2⟩ := cut_ok ht
      by_cases hst : (linesCut (s ++ t)).2 = 0
      · have h48 : s.size + t.size ≤ 2048 := by
          obtain ⟨_, _, _, z, _⟩ := cut_ok hst
          rw [ByteArray.size_append] at z
          exact z
        have hj := join_two hs ht h48
        have l1 : (linesCut s).1.length ≤ 2048 := by
          rw [c1]
          have h1 := go_len rs.length rs []
          have h2 := rows_le rs
          rw [← U_size, ← e1] at h2
          simp at h1
          omega
        have l2 : (linesCut t).1.length ≤ 2048 := by
          rw [c2]
          have h1 := go_len ts.length ts []
          have h2 := rows_le ts
          rw [← U_size, ← e2] at h2
          simp at h1
          omega
        rw [hst, show ((0 : Int) != 0) = false from rfl, cruciblelaw6_LineJoin.j0, if_neg (by decide)]
        simp only [Option.bind_some, List.nil_append, List.length_nil]
        rw [if_pos (by omega), if_pos (by omega), hj, same_self _ (by rw [List.length_append]; omega) K (by rw [List.length_append]; omega)]
        rfl
      · have hb : ((linesCut (s ++ t)).2 != 0) = true := bne_iff_ne.2 hst
        have h48 : 2048 < s.size + t.size := by
          rcases Nat.lt_or_ge 2048 (s.size + t.size) with h | h
          · exact h
          · exact absurd (by rw [join_two hs ht h]) hst
        rw [hb, cruciblelaw6_LineJoin.j0, if_pos rfl]
        simp only [Option.bind_some, num_eq]
        rw [if_pos hs, if_pos ht, wrap_sum _ _ (by omega) (by omega) (by omega) (by omega), decide_eq_true (by omega)]
    · rw [if_neg ht, cruciblelaw6_LineJoin.j0, if_pos rfl]
      simp only [Option.bind_some, num_eq]
      rw [if_pos hs, if_neg ht]
  · rw [if_neg hs, cruciblelaw6_LineJoin.j0, if_pos rfl]
    simp only [Option.bind_some, num_eq]
    rw [if_neg hs]
end Go.Proofs.YtbkgcdjbkoeejaaDoor.Pure
namespace Go.Proofs.YtbkgcdjbkoeejaaDoor.Print
open Go.RowKit Go.Lib Go.Proofs.YtbkgcdjbkoeejaaDoorW.PrintWords Go.Proofs.YtbkgcdjbkoeejaaDoorW.PrintLast
theorem LineJoin_walk (w : World) (a0 : ByteArray) (h0 : a0.size ≤ 140737488351232) (a1 : ByteArray) (h1 : a1.size ≤ 140737488351232) : Calls Tryd.prog 6 #[.string a0, .string a1] w fun e w' => e = .returned (.bool true) ∧ Below w.heap.size w w' :=
  cruciblelaw6_LineJoin.walk Pure.LineJoin a0 a1 w h0 h1
end Go.Proofs.YtbkgcdjbkoeejaaDoor.Print
