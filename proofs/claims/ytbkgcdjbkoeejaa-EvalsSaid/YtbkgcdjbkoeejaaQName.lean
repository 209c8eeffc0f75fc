/- Plain laws on names: the reference's answer is nameMay, for every text of a length that Go has. -/
import Derived.Test.YtbkgcdjbkoeejaaHName
import Derived.Test.YtbkgcdjbkoeejaaPCrucibleref1NameMay
import Derived.Test.YtbkgcdjbkoeejaaPCruciblelaw0Num
namespace Go.Proofs.Ytbkgcdjbkoeejaa.Print
open Go.RowKit Go.Proofs.YtbkgcdjbkoeejaaW.PrintWords Go.Proofs.YtbkgcdjbkoeejaaW.PrintLast

def smallB (c : Int) : Bool := (decide (97 ≤ c) && decide (c ≤ 122)) || (decide (48 ≤ c) && decide (c ≤ 57))
theorem small_eq (c : Int) : crucibleref1_small.f c = some (smallB c) := by
  unfold crucibleref1_small.f smallB
  repeat' split
  all_goals (congr 1; rw [eq_comm, Bool.eq_iff_iff]; simp; try omega)

theorem wrap_succ {i : Int} {n : Nat} (h0 : 0 ≤ i) (h : i < (n : Int)) (hn : n ≤ 140737488355328) : wrap64 (i + 1) = i + 1 := by
  unfold wrap64
  omega

theorem bt_nat (s : ByteArray) (i : Nat) (h : i < s.size) : bt s (i : Int) = (s[i].toNat : Int) := by
  unfold bt
  rw [dif_pos (by simpa using h)]
  rfl


theorem nameMay_loop (s : ByteArray) (hn : s.size ≤ 140737488355328) (d : Nat) : ∀ (k i : Nat), i + d = s.size → d < k →
    crucibleref1_NameMay.l0 k s (i : Int) = some (((s.data.toList.drop i).all fun b => oneB b.toNat) && (decide (1 ≤ s.size) && decide (s.size ≤ 16))) := by
  induction d with
  | zero =>
    intro k i hi hk
    obtain ⟨k, rfl⟩ : ∃ m, k = m + 1 := ⟨k - 1, by omega⟩
    simp only [crucibleref1_NameMay.l0]
    rw [if_neg (by omega), drop_end s i (by omega)]
    by_cases h : 1 ≤ s.size
    · rw [if_pos (by omega)]; congr 1; rw [Bool.eq_iff_iff]; simp; omega
    · rw [if_neg (by omega)]; simp [h]
  | succ d ih =>
    intro k i hi hk
    obtain ⟨k, rfl⟩ : ∃ m, k = m + 1 := ⟨k - 1, by omega⟩
    have hlt : i < s.size := by omega
    have hih := ih k (i + 1) (by omega) (by omega)
    simp only [crucibleref1_NameMay.l0]
    rw [if_pos (by omega), if_pos (by omega), small_eq, bt_nat s i hlt, drop_cons s i hlt, wrap_succ (n := s.size) (by omega) (by omega) hn]
    simp only [Option.bind_some, List.all_cons]
    have hc : ((i : Int) + 1) = ((i + 1 : Nat) : Int) := by omega
    rw [hc, hih]
    have hb : (s[i].toNat : Int) < 256 := by have := s[i].toNat_lt; omega
    generalize (s[i].toNat : Int) = b at *
    by_cases h1 : smallB b = true
    · have : oneB b = true := by unfold oneB varB; unfold smallB at h1; simp at h1 ⊢; omega
      rw [if_pos h1, this]; simp
    · rw [if_neg h1]
      repeat' split
      all_goals first
        | (have : oneB b = true := by unfold oneB varB; simp; omega
           rw [this]; simp; done)
        | (have : oneB b = false := by unfold oneB varB; unfold smallB at h1; simp at h1 ⊢; omega
           rw [this]; simp; done)

theorem refNameMay (s : ByteArray) (hn : s.size ≤ 140737488355328) (k : Nat) (hk : s.size < k) : crucibleref1_NameMay.f k s = some (nameMay s) := by
  unfold crucibleref1_NameMay.f
  have := nameMay_loop s hn s.size k 0 (by omega) hk
  rw [show (0 : Int) = ((0 : Nat) : Int) from rfl, this, List.drop_zero]
  unfold nameMay
  congr 1
  rw [Bool.and_comm, Bool.and_assoc]

theorem num_eq (x : Int) : cruciblelaw0_Num.f x = some x := rfl
theorem may_eq (s : ByteArray) : name_May.f s = some (nameMay s) := rfl
end Go.Proofs.Ytbkgcdjbkoeejaa.Print
