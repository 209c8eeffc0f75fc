/- EvalParts, plain: a value of two texts is both's values, one behind the other. -/
import Derived.Test.YtbkgcdjbkoeejaaQEvalLaws
import Derived.Test.YtbkgcdjbkoeejaaPCruciblelaw5EvalParts
namespace Go.Proofs.Ytbkgcdjbkoeejaa.Print
open Go.RowKit Go.Lib Go.Proofs.YtbkgcdjbkoeejaaW.PrintWords Go.Proofs.YtbkgcdjbkoeejaaW.PrintLast

theorem size_val (l : List UInt8) : (⟨l.toArray⟩ : ByteArray).size = l.length := size_list l
theorem wrap_sum (a b c : Int) (h0 : 0 ≤ a) (h1 : a ≤ 1000000) (h2 : 0 ≤ b) (h3 : b ≤ 1000000) (h4 : 0 ≤ c) (h5 : c ≤ 2) : wrap64 (wrap64 (a + b) + c) = a + b + c := by unfold wrap64; omega
theorem parts_true (D : Nat) (hD : D ≤ 140737488355328) (s t : ByteArray) (hs : s.size ≤ 140737488351232) (ht : t.size ≤ 140737488351232) (l2 l3 : List S34) (hn : l2.length ≤ 140737488355328) (ht2 : textsOk D l2) (hL2 : longOk l2 = true) (hL3 : longOk l3 = true)
    (k : Nat) (hk : enough D l2 + 400 ≤ k) : cruciblelaw5_EvalParts.f (k + 1) s t l2 l3 = some true := by
  have hst : ((s ++ (⟨#[36, 32]⟩ : ByteArray)) ++ t) = s ++ (sb ++ t) := by rw [ByteArray.append_assoc]; rfl
  have h36 : (s ++ (⟨#[36, 32]⟩ : ByteArray)).size = s.size + 2 := by rw [ByteArray.size_append]; rfl
  unfold cruciblelaw5_EvalParts.f
  rw [awake5 (k + 1) (by omega)]
  simp only [Option.bind_some, if_true]
  rw [hst, h36, eval_f (by omega) hL2 hL3, eval_f (by omega) hL2 hL3, eval_f (by rw [ByteArray.size_append, sb_size]; omega) hL2 hL3]
  simp only [Option.bind_some, num_eq]
  rw [if_pos (by omega), if_pos (by omega)]
  by_cases ha : (evalOf s l2 l3).2 = 0
  · obtain ⟨ps, cs, m2, m3, va, la⟩ := eval_ok ha
    have zs : s.size ≤ 2048 := by have := plain_size ps; omega
    rw [if_pos ha]
    by_cases hb : (evalOf t l2 l3).2 = 0
    · obtain ⟨pt, ct, -, -, vb, lb⟩ := eval_ok hb
      have zt : t.size ≤ 2048 := by have := plain_size pt; omega
      rw [if_pos hb]
      have hw : wrap64 (wrap64 ((s.size : Int) + (t.size : Int)) + 2) = (s.size : Int) + t.size + 2 := wrap_sum _ _ _ (by omega) (by omega) (by omega) (by omega) (by omega) (by omega)
      rw [hw]
      clear hw
      by_cases h48 : (s.size : Int) + t.size + 2 > 2048
      · rw [decide_eq_true h48]
        simp only [cruciblelaw5_EvalParts.j0, if_true, Option.bind_some, num_eq, ha]
      · rw [decide_eq_false h48]
        obtain ⟨hz, hv⟩ := two_vals l2 l3 s t cs ct
        have pp : plainB (s ++ (sb ++ t)) 2048 = true := by
          unfold plainB at ps pt ⊢
          simp only [Bool.and_eq_true, decide_eq_true_eq] at ps pt ⊢
          refine ⟨?_, by rw [ByteArray.size_append, sb_size]; omega⟩
          rw [plain_app, plain_app, ps.1, pt.1]
          decide +kernel
        have e := eval_ref pp hz m2 m3
        have ea : (evalOf s l2 l3).1.size = (val l2 l3 s).length := by rw [va, size_val]
        have eb : (evalOf t l2 l3).1.size = (val l2 l3 t).length := by rw [vb, size_val]
        have hlen : (val l2 l3 (s ++ (sb ++ t))).length = (val l2 l3 s).length + (val l2 l3 t).length + 1 := by rw [hv]; simp; omega
        have hw2 : wrap64 (wrap64 (((evalOf s l2 l3).1.size : Int) + ((evalOf t l2 l3).1.size : Int)) + 1) = ((val l2 l3 s).length : Int) + (val l2 l3 t).length + 1 := by rw [ea, eb]; exact wrap_sum _ _ _ (by omega) (by omega) (by omega) (by omega) (by omega) (by omega)
        simp only [cruciblelaw5_EvalParts.j0, Bool.false_eq_true, if_false]
        rw [hw2]
        clear hw2
        by_cases h256 : ((val l2 l3 s).length : Int) + (val l2 l3 t).length + 1 > 256
        · rw [if_pos h256, e, if_neg (by omega)]
          rfl
        · rw [if_neg h256, e, if_pos (by omega)]
          simp only [num_eq, Option.bind_some, if_true]
          rw [if_pos (by omega), if_pos (by rw [ByteArray.size_append, show (⟨#[32]⟩ : ByteArray).size = 1 from rfl]; omega), refScopeMay D hD l2 hn ht2 k (by omega), m2, if_pos (by
            rw [va, vb, hv, Lib.toList_data, Lib.toList_data]
            simp [ByteArray.data_append])]
          rfl
    · rw [if_neg hb]
      simp only [cruciblelaw5_EvalParts.j0, if_true, Option.bind_some, num_eq, ha]
  · rw [if_neg ha]
    have := eval_no ha
    simp only [cruciblelaw5_EvalParts.j0, if_true, Option.bind_some, num_eq, if_neg ha, this]
    decide +kernel
end Go.Proofs.Ytbkgcdjbkoeejaa.Print
