/- Plain laws on what Set leaves: a scope that may be, the name's text, and all others as they were. -/
import Derived.Test.YtbkgcdjbkoeejaaQScope
import Derived.Test.YtbkgcdjbkoeejaaPCruciblelaw0SameBinds
namespace Go.Proofs.Ytbkgcdjbkoeejaa.Print
open Go.RowKit Go.Proofs.YtbkgcdjbkoeejaaW.PrintWords Go.Proofs.YtbkgcdjbkoeejaaW.PrintLast

theorem may_iff (l : List S34) : scopeMay l = true ↔ (∀ k, k < l.length → nameMay (rd_T34 l k).f0 = true ∧ plainB (rd_T34 l k).f1 256 = true ∧ ∀ j, j < k → (rd_T34 l j).f0.toList ≠ (rd_T34 l k).f0.toList) ∧ l.length ≤ 16 := by
  unfold scopeMay okAt
  rw [Bool.and_eq_true, List.all_eq_true]
  constructor
  · rintro ⟨h, h2⟩
    refine ⟨fun k hk => ?_, by have := of_decide_eq_true h2; omega⟩
    have := h k (List.mem_range.2 hk)
    rw [Bool.and_eq_true, Bool.and_eq_true] at this
    exact ⟨this.1, this.2.1, (find_self l k hk).1 (beq_iff_eq.1 this.2.2)⟩
  · rintro ⟨h, h2⟩
    refine ⟨fun k hk => ?_, decide_eq_true (by omega)⟩
    have hk' := List.mem_range.1 hk
    obtain ⟨h3, h4, h5⟩ := h k hk'
    rw [h3, h4, (find_self l k hk').2 h5]
    simp

/-- Where a name stands, or that it does not. -/
theorem find_cases (l : List S34) (s : ByteArray) : (∃ i : Nat, i < l.length ∧ findS l s = i ∧ (rd_T34 l i).f0.toList = s.toList ∧ ∀ j, j < i → (rd_T34 l j).f0.toList ≠ s.toList) ∨ (findS l s = -1 ∧ ∀ j, j < l.length → (rd_T34 l j).f0.toList ≠ s.toList) := by
  by_cases h : ∃ j, j < l.length ∧ (rd_T34 l j).f0.toList = s.toList
  · obtain ⟨i, h1, h2, h3⟩ := first_of (fun j => (rd_T34 l j).f0.toList = s.toList) l.length h
    exact .inl ⟨i, h1, find_first s l i h1 h3 h2, h2, h3⟩
  · have h' : ∀ j, j < l.length → (rd_T34 l j).f0.toList ≠ s.toList := fun j hj he => h ⟨j, hj, he⟩
    exact .inr ⟨find_none s l h', h'⟩

theorem rd_set (l : List S34) (i : Nat) (hi : i < l.length) (x : S34) (j : Nat) : rd_T34 (l.set i x) j = if j = i then x else rd_T34 l j := by
  simp only [rd_T34, List.getD_eq_getElem?_getD, Int.toNat_natCast, List.getElem?_set]
  by_cases h : i = j
  · subst h; simp [hi]
  · rw [if_neg h, if_neg (fun e => h e.symm)]
theorem rd_app (l : List S34) (x : S34) (j : Nat) : rd_T34 (l ++ [x]) j = if j < l.length then rd_T34 l j else if j = l.length then x else z34 := by
  simp only [rd_T34, List.getD_eq_getElem?_getD, Int.toNat_natCast]
  by_cases h : j < l.length
  · rw [if_pos h, List.getElem?_append_left h]
  · rw [if_neg h, List.getElem?_append_right (by omega)]
    by_cases h2 : j = l.length
    · subst h2; simp
    · rw [if_neg h2]
      obtain ⟨d, hd⟩ : ∃ d, j - l.length = d + 1 := ⟨j - l.length - 1, by omega⟩
      rw [hd]; rfl

/-- The comparison of two lists of binds. -/
def same42 (x y : S34) : Bool := x.f0.toList == y.f0.toList && (x.f1.toList == y.f1.toList)
def sameBinds (a b : List S34) : Bool := decide (a.length = b.length) && (List.range a.length).all fun i => same42 (rd_T34 a i) (rd_T34 b i)

theorem same_loop (a b : List S34) (hl : a.length = b.length) (hn : a.length ≤ 140737488355328) (d : Nat) : ∀ (k i : Nat), i + d = a.length → d < k →
    cruciblelaw0_SameBinds.l0 k a b (i : Int) = some ((List.range' i d).all fun i => same42 (rd_T34 a i) (rd_T34 b i)) := by
  induction d with
  | zero =>
    intro k i hi hk
    obtain ⟨k, rfl⟩ : ∃ m, k = m + 1 := ⟨k - 1, by omega⟩
    simp only [cruciblelaw0_SameBinds.l0]
    rw [if_neg (by omega)]
    rfl
  | succ d ih =>
    intro k i hi hk
    obtain ⟨k, rfl⟩ : ∃ m, k = m + 1 := ⟨k - 1, by omega⟩
    simp only [cruciblelaw0_SameBinds.l0]
    rw [if_pos (by omega), if_pos (by omega), if_pos (by omega), wrap_succ (n := a.length) (by omega) (by omega) hn, List.range'_succ, List.all_cons]
    have hs : (!((rd_T34 a i).f0.toList == (rd_T34 b i).f0.toList) || !((rd_T34 a i).f1.toList == (rd_T34 b i).f1.toList)) = !same42 (rd_T34 a i) (rd_T34 b i) := by
      unfold same42
      rw [Bool.not_and]
    rw [hs]
    cases same42 (rd_T34 a i) (rd_T34 b i)
    · simp
    · rw [if_neg (by simp)]
      have := ih k (i + 1) (by omega) (by omega)
      simpa using this
theorem sameBinds_eq (a b : List S34) (hn : a.length ≤ 140737488355328) (k : Nat) (hk : a.length < k) : cruciblelaw0_SameBinds.f k a b = some (sameBinds a b) := by
  unfold cruciblelaw0_SameBinds.f sameBinds
  by_cases hl : a.length = b.length
  · rw [if_pos (by omega)]
    have := same_loop a b hl hn a.length k 0 (by omega) hk
    rw [← List.range_eq_range'] at this
    simpa [hl] using this
  · rw [if_neg (by omega)]
    simp [hl]
theorem sameBinds_self (a : List S34) : sameBinds a a = true := by
  unfold sameBinds
  simp [same42]
end Go.Proofs.Ytbkgcdjbkoeejaa.Print
