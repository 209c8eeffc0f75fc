/- Plain laws of a text's value: awake; a scope of one name. -/
import Derived.Test.YtbkgcdjbkoeejaaPCruciblelaw5Awake
namespace Go.Proofs.Ytbkgcdjbkoeejaa.Print
open Go.RowKit Go.Lib Go.Proofs.YtbkgcdjbkoeejaaW.PrintWords Go.Proofs.YtbkgcdjbkoeejaaW.PrintLast

theorem awake5 (k : Nat) (hk : 300 ≤ k) : cruciblelaw5_awake.f k = some true := by
  have h : cruciblelaw5_awake.f 300 = some true := by decide +kernel
  exact at_rounds (g := fun k => cruciblelaw5_awake.f k) (fun k => cruciblelaw5_awake.mono k) hk h

theorem plain_mono {s : ByteArray} {m n : Int} (h : plainB s m = true) (hm : m ≤ n) : plainB s n = true := by
  unfold plainB at h ⊢
  simp only [Bool.and_eq_true, decide_eq_true_eq] at h ⊢
  exact ⟨h.1, by omega⟩
theorem plain_size {s : ByteArray} {m : Int} (h : plainB s m = true) : (s.size : Int) ≤ m := by
  unfold plainB at h
  simp only [Bool.and_eq_true, decide_eq_true_eq] at h
  exact h.2
theorem long_one (nm t : ByteArray) (h : t.size ≤ 9223372036854775807) : longOk [⟨nm, t⟩] = true := by
  unfold longOk
  simp only [List.all_cons, List.all_nil, Bool.and_true, decide_eq_true_eq]
  exact h
theorem find_one (nm t s : ByteArray) : findS [⟨nm, t⟩] s = if nm.toList = s.toList then 0 else -1 := by
  unfold findS findFrom
  by_cases h : nm.toList = s.toList
  · rw [if_pos (beq_iff_eq.2 h), if_pos h]; rfl
  · rw [if_neg (fun e => h (beq_iff_eq.1 e)), if_neg h]; rfl
theorem may_one {nm t : ByteArray} (hn : nameMay nm = true) (ht : plainB t 256 = true) : scopeMay [⟨nm, t⟩] = true := by
  refine (may_iff _).2 ⟨fun k hk => ?_, by simp⟩
  obtain rfl : k = 0 := by simp at hk; omega
  exact ⟨hn, ht, fun j hj => absurd hj (by omega)⟩
theorem get_one {nm t : ByteArray} (s : ByteArray) (hn : nameMay nm = true) (ht : plainB t 256 = true) : scopeGet [⟨nm, t⟩] s = if nm.toList = s.toList then t else ⟨#[]⟩ := by
  unfold scopeGet
  rw [find_one, may_one hn ht]
  by_cases h : nm.toList = s.toList
  · rw [if_pos h, if_pos h, if_pos ⟨by omega, rfl⟩]; rfl
  · rw [if_neg h, if_neg h, if_neg (fun e => absurd e.1 (by omega))]
theorem orB_empty (b : ByteArray) : orB ⟨#[]⟩ b = b := by unfold orB; rw [if_neg (by decide)]
theorem orB_right (a : ByteArray) : orB a ⟨#[]⟩ = a := by
  unfold orB
  split
  · rfl
  · rename_i h
    exact (ByteArray.ext (Array.eq_empty_of_size_eq_zero (by have : a.data.size = a.size := rfl; omega))).symm
theorem eval_f {s : ByteArray} {l1 l2 : List S34} (h : s.size ≤ 140737488355328) (h1 : longOk l1 = true) (h2 : longOk l2 = true) : eval_Of.f s l1 l2 = some (evalOf s l1 l2) := by
  unfold eval_Of.f
  rw [if_pos ⟨h, h1, h2⟩]
/-- A value, out of the pieces. -/
theorem eval_of {s : ByteArray} {ps : List S49} {l1 l2 : List S34} (hc : cutOf s = (ps, 0)) (h1 : scopeMay l1 = true) (h2 : scopeMay l2 = true) :
    evalOf s l1 l2 = if (evalOut l1 l2 ps).length ≤ 256 then (⟨(evalOut l1 l2 ps).toArray⟩, 0) else (⟨#[]⟩, 501) := by
  unfold evalOf
  rw [hc, if_pos ⟨rfl, h1, h2⟩]
end Go.Proofs.Ytbkgcdjbkoeejaa.Print
