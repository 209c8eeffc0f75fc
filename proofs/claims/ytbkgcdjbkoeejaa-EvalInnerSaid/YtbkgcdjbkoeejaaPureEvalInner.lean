/- EvalInner, plain: an inner variable that is not empty hides the outer one. -/
import Derived.Test.YtbkgcdjbkoeejaaQEval
import Derived.Test.YtbkgcdjbkoeejaaPCruciblelaw5EvalInner
namespace Go.Proofs.Ytbkgcdjbkoeejaa.Pure
open Go.RowKit Go.Lib Go.Proofs.Ytbkgcdjbkoeejaa.Print Go.Proofs.YtbkgcdjbkoeejaaW.PrintWords Go.Proofs.YtbkgcdjbkoeejaaW.PrintLast

theorem cut_in : cutOf ⟨#[60, 36, 118, 62]⟩ = ([⟨false, ⟨#[60]⟩⟩, ⟨true, ⟨#[118]⟩⟩, ⟨false, ⟨#[62]⟩⟩], 0) := by kernel_rfl
theorem cut_two : cutOf ⟨#[36, 118, 36, 119]⟩ = ([⟨true, ⟨#[118]⟩⟩, ⟨true, ⟨#[119]⟩⟩], 0) := by kernel_rfl
theorem may_v : nameMay ⟨#[118]⟩ = true := by decide +kernel
theorem may_w : nameMay ⟨#[119]⟩ = true := by decide +kernel
theorem vw : ¬ (⟨#[118]⟩ : ByteArray).toList = (⟨#[119]⟩ : ByteArray).toList := by decide +kernel
theorem wv : ¬ (⟨#[119]⟩ : ByteArray).toList = (⟨#[118]⟩ : ByteArray).toList := by decide +kernel
theorem len_data (a : ByteArray) : a.data.toList.length = a.size := by rw [Lib.size_eq]

theorem in_value (a b : ByteArray) (ha : plainB a 100 = true) (hb : plainB b 100 = true) :
    evalOf ⟨#[60, 36, 118, 62]⟩ [⟨⟨#[118]⟩, a⟩] [⟨⟨#[118]⟩, b⟩] = ((⟨#[60]⟩ ++ orB a b) ++ ⟨#[62]⟩, 0) := by
  have ha2 := plain_mono ha (show (100 : Int) ≤ 256 by omega)
  have hb2 := plain_mono hb (show (100 : Int) ≤ 256 by omega)
  have hza := plain_size ha
  have hzb := plain_size hb
  rw [eval_of cut_in (may_one may_v ha2) (may_one may_v hb2)]
  have e : evalOut [⟨⟨#[118]⟩, a⟩] [⟨⟨#[118]⟩, b⟩] [⟨false, ⟨#[60]⟩⟩, ⟨true, ⟨#[118]⟩⟩, ⟨false, ⟨#[62]⟩⟩] = ((⟨#[60]⟩ ++ orB a b) ++ ⟨#[62]⟩ : ByteArray).data.toList := by
    simp only [evalOut, List.flatMap_cons, List.flatMap_nil, pieceVal, get_one _ may_v ha2, get_one _ may_v hb2, if_true, Bool.false_eq_true, if_false]
    simp [ByteArray.data_append]
  rw [e]
  have hl : ((⟨#[60]⟩ ++ orB a b) ++ ⟨#[62]⟩ : ByteArray).data.toList.length ≤ 256 := by
    rw [len_data, ByteArray.size_append, ByteArray.size_append, show (⟨#[60]⟩ : ByteArray).size = 1 from rfl, show (⟨#[62]⟩ : ByteArray).size = 1 from rfl]
    unfold orB
    split <;> omega
  rw [if_pos hl]
theorem two_value (a b : ByteArray) (ha : plainB a 100 = true) (hb : plainB b 100 = true) :
    evalOf ⟨#[36, 118, 36, 119]⟩ [⟨⟨#[118]⟩, a⟩] [⟨⟨#[119]⟩, b⟩] = (a ++ b, 0) := by
  have ha2 := plain_mono ha (show (100 : Int) ≤ 256 by omega)
  have hb2 := plain_mono hb (show (100 : Int) ≤ 256 by omega)
  have hza := plain_size ha
  have hzb := plain_size hb
  rw [eval_of cut_two (may_one may_v ha2) (may_one may_w hb2)]
  have e : evalOut [⟨⟨#[118]⟩, a⟩] [⟨⟨#[119]⟩, b⟩] [⟨true, ⟨#[118]⟩⟩, ⟨true, ⟨#[119]⟩⟩] = (a ++ b : ByteArray).data.toList := by
    simp only [evalOut, List.flatMap_cons, List.flatMap_nil, pieceVal, get_one _ may_v ha2, get_one _ may_w hb2, if_true, if_neg vw, if_neg wv, orB_empty, orB_right]
    simp [ByteArray.data_append]
  rw [e]
  have hl : (a ++ b : ByteArray).data.toList.length ≤ 256 := by
    rw [len_data, ByteArray.size_append]
    omega
  rw [if_pos hl]

theorem EvalInner : cruciblelaw5_EvalInner.Pure := by
  intro a b wa wb
  obtain ⟨K, hK⟩ : ∃ K : Nat, a.size + b.size + 400 ≤ K := ⟨_, Nat.le_refl _⟩
  refine ⟨K + 1, ?_⟩
  unfold cruciblelaw5_EvalInner.f
  rw [awake5 (K + 1) (by omega), refPlain a 100 (by omega) (K + 1) (by omega), refPlain b 100 (by omega) (K + 1) (by omega)]
  simp only [Option.bind_some, if_true]
  cases ha : plainB a 100
  · simp [cruciblelaw5_EvalInner.j0]
  cases hb : plainB b 100
  · simp [cruciblelaw5_EvalInner.j0]
  have hza := plain_size ha
  have hzb := plain_size hb
  have la := long_one ⟨#[118]⟩ a (by omega)
  have lb := long_one ⟨#[118]⟩ b (by omega)
  have lc := long_one ⟨#[119]⟩ b (by omega)
  have s60 : (⟨#[60]⟩ : ByteArray).size = 1 := rfl
  simp only [cruciblelaw5_EvalInner.j0, Bool.not_true, Bool.false_eq_true, if_false, if_true]
  rw [eval_f (by decide) la lb, eval_f (by decide) la lc, in_value a b ha hb, two_value a b ha hb]
  simp only [Option.bind_some]
  by_cases h0 : a.toList = []
  · have hs : ¬ 1 ≤ a.size := fun h => size_some h h0
    have ho : orB a b = b := by unfold orB; rw [if_neg hs]
    rw [if_pos h0, ho]
    simp only [num_eq, Option.bind_some, if_true]
    rw [if_pos (by omega), if_pos (by rw [ByteArray.size_append, s60]; omega), if_pos (by omega)]
    simp
  · have hs : 1 ≤ a.size := by
      rcases Nat.lt_or_ge a.size 1 with h | h
      · exact absurd (size_nil (by omega)) h0
      · exact h
    have ho : orB a b = a := by unfold orB; rw [if_pos hs]
    rw [if_neg h0, ho]
    simp only [num_eq, Option.bind_some, if_true]
    rw [if_pos (by omega), if_pos (by rw [ByteArray.size_append, s60]; omega), if_pos (by omega)]
    simp
end Go.Proofs.Ytbkgcdjbkoeejaa.Pure
