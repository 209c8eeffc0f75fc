/- Plain laws on what Set leaves: a scope that may be, the name's text, and all others as they were. -/
import Derived.Test.YtchkgljhklfhnaaQScope
import Derived.Test.YtchkgljhklfhnaaPCruciblelaw0SameBinds
namespace Go.Proofs.Ytchkgljhklfhnaa.Print
open Go.RowKit Go.Proofs.YtchkgljhklfhnaaW.PrintWords Go.Proofs.YtchkgljhklfhnaaW.PrintLast

theorem may_iff (l : List S42) : scopeMay l = true ↔ (∀ k, k < l.length → nameMay (rd_T42 l k).f0 = true ∧ plainB (rd_T42 l k).f1 256 = true ∧ ∀ j, j < k → (rd_T42 l j).f0.toList ≠ (rd_T42 l k).f0.toList) ∧ l.length ≤ 16 := by
  unfold scopeMay okAt
  rw [Bool.and_eq_true, List.all_eq_true]
  constructor
  · rintro ⟨h, h2⟩
    refine ⟨fun k hk => ?_, by have := of_decide_eq_true h2; omega⟩
    have := h k (List.mem_range.2 hk)
    rw [Bool.and_eq_true, Bool.and_eq_true] at this
    exact ⟨this.1, this.2.1, (find_self l k hk).1 (beq_iff_eq.1 this.2.2)⟩
  · rintro ⟨h, h2⟩
    refine ⟨fun k hk => ?_, decide_eq_true (by omega)⟩
    have hk' := List.mem_range.1 hk
    obtain ⟨h3, h4, h5⟩ := h k hk'
    rw [h3, h4, (find_self l k hk').2 h5]
    simp

/-- Where a name stands, or that it does not. -/
theorem find_cases (l : List S42) (s : ByteArray) : (∃ i : Nat, i < l.length ∧ findS l s = i ∧ (rd_T42 l i).f0.toList = s.toList ∧ ∀ j, j < i → (rd_T42 l j).f0.toList ≠ s.toList) ∨ (findS l s = -1 ∧ ∀ j, j < l.length → (rd_T42 l j).f0.toList ≠ s.toList) := by
  by_cases h : ∃ j, j < l.length ∧ (rd_T42 l j).f0.toList = s.toList
  · obtain ⟨i, h1, h2, h3⟩ := first_of (fun j => (rd_T42 l j).f0.toList = s.toList) l.length h
    exact .inl ⟨i, h1, find_first s l i h1 h3 h2, h2, h3⟩
  · have h' : ∀ j, j < l.length → (rd_T42 l j).f0.toList ≠ s.toList := fun j hj he => h ⟨j, hj, he⟩
    exact .inr ⟨find_none s l h', h'⟩

theorem rd_set (l : List S42) (i : Nat) (hi : i < l.length) (x : S42) (j : Nat) : rd_T42 (l.set i x) j = if j = i then x else rd_T42 l j := by
  simp only [rd_T42, List.getD_eq_getElem?_getD, Int.toNat_natCast, List.getElem?_set]
  by_cases h : i = j
  · subst h; simp [hi]
  · rw [if_neg h, if_neg (fun e => h e.symm)]
theorem rd_app (l : List S42) (x : S42) (j : Nat) : rd_T42 (l ++ [x]) j = if j < l.length then rd_T42 l j else if j = l.length then x else z42 := by
  simp only [rd_T42, List.getD_eq_getElem?_getD, Int.toNat_natCast]
  by_cases h : j < l.length
  · rw [if_pos h, List.getElem?_append_left h]
  · rw [if_neg h, List.getElem?_append_right (by omega)]
    by_cases h2 : j = l.length
    · subst h2; simp
    · rw [if_neg h2]
      obtain ⟨d, hd⟩ : ∃ d, j - l.length = d + 1 := ⟨j - l.length - 1, by omega⟩
      rw [hd]; rfl

/-- What Set leaves where nothing refuses. -/
theorem set_ok (l : List S42) (s t : ByteArray) (hM : scopeMay l = true) (hN : nameMay s = true) (hT : plainB t 256 = true) (h0 : (setIn l s t).2 = 0) :
    scopeMay (setIn l s t).1 = true ∧ scopeGet (setIn l s t).1 s = t ∧ (∀ o : ByteArray, o.toList ≠ s.toList → scopeGet (setIn l s t).1 o = scopeGet l o) ∧ setIn (setIn l s t).1 s t = ((setIn l s t).1, 0) ∧
    (∀ D, textsOk D l → s.size ≤ D → t.size ≤ D → textsOk D (setIn l s t).1) := by
  obtain ⟨hl, hlen⟩ := (may_iff l).1 hM
  rcases find_cases l s with ⟨i, hi, hf, he, hbef⟩ | ⟨hf, hno⟩
  · have hs : setIn l s t = (l.set i ⟨(rd_T42 l i).f0, t⟩, 0) := by
      unfold setIn
      rw [if_pos (by omega), hf]
      rfl
    rw [hs]
    have hrd := rd_set l i hi ⟨(rd_T42 l i).f0, t⟩
    have hnm : ∀ j : Nat, (rd_T42 (l.set i ⟨(rd_T42 l i).f0, t⟩) j).f0 = (rd_T42 l j).f0 := by
      intro j
      rw [hrd]
      by_cases h : j = i
      · rw [if_pos h, h]
      · rw [if_neg h]
    have hfind : ∀ o : ByteArray, findS (l.set i ⟨(rd_T42 l i).f0, t⟩) o = findS l o := by
      intro o
      rcases find_cases l o with ⟨m, h1, h2, h3, h4⟩ | ⟨h2, h3⟩
      · rw [h2]
        exact find_first o _ m (by simpa using h1) (fun j hj => by rw [hnm]; exact h4 j hj) (by rw [hnm]; exact h3)
      · rw [h2]
        exact find_none o _ (fun j hj => by rw [hnm]; exact h3 j (by simpa using hj))
    have hM2 : scopeMay (l.set i ⟨(rd_T42 l i).f0, t⟩) = true := by
      rw [may_iff]
      refine ⟨fun k hk => ?_, by simpa using hlen⟩
      have hk' : k < l.length := by simpa using hk
      obtain ⟨h1, h2, h3⟩ := hl k hk'
      refine ⟨by rw [hnm]; exact h1, ?_, fun j hj => by rw [hnm, hnm]; exact h3 j hj⟩
      rw [hrd]
      by_cases h : k = i
      · rw [if_pos h]; exact hT
      · rw [if_neg h]; exact h2
    refine ⟨hM2, ?_, fun o ho => ?_, ?_, fun D hD hs ht k hk => ?_⟩
    · unfold scopeGet
      rw [hfind, hf, if_pos ⟨by omega, hM2⟩, hrd, if_pos rfl]
    · unfold scopeGet
      rw [hfind, hM2, hM]
      rcases find_cases l o with ⟨m, h1, h2, h3, h4⟩ | ⟨h2, h3⟩
      · have hne : m ≠ i := by
          intro h
          subst h
          exact ho (h3.symm.trans he)
        rw [h2, if_pos ⟨by omega, rfl⟩, if_pos ⟨by omega, rfl⟩, hrd, if_neg hne]
      · rw [h2, if_neg (fun h => by omega), if_neg (fun h => by omega)]
    · unfold setIn
      rw [hfind, hf, if_pos (by omega), hnm]
      simp only [Int.toNat_natCast, List.set_set]
    · have hk' : k < l.length := by simpa using hk
      rw [hnm, hrd]
      refine ⟨(hD k hk').1, ?_⟩
      by_cases h : k = i
      · rw [if_pos h]; exact ht
      · rw [if_neg h]; exact (hD k hk').2
  · have h16 : ¬ (l.length : Int) = 16 := by
      intro h
      unfold setIn at h0
      rw [if_neg (by omega), if_pos h] at h0
      exact absurd h0 (by decide)
    have hs : setIn l s t = (l ++ [⟨s, t⟩], 0) := by
      unfold setIn
      rw [if_neg (by omega), if_neg h16]
    rw [hs]
    have hrd := rd_app l ⟨s, t⟩
    have hlast : rd_T42 (l ++ [⟨s, t⟩]) l.length = ⟨s, t⟩ := by rw [hrd, if_neg (by omega), if_pos rfl]
    have hold : ∀ j : Nat, j < l.length → rd_T42 (l ++ [⟨s, t⟩]) j = rd_T42 l j := fun j hj => by rw [hrd, if_pos hj]
    have hfs : findS (l ++ [⟨s, t⟩]) s = (l.length : Nat) := find_first s _ l.length (by simp) (fun j hj => by rw [hold j hj]; exact hno j hj) (by rw [hlast])
    have hM2 : scopeMay (l ++ [⟨s, t⟩]) = true := by
      rw [may_iff]
      refine ⟨fun k hk => ?_, by simp; omega⟩
      rcases Nat.lt_or_ge k l.length with hk' | hk'
      · obtain ⟨h1, h2, h3⟩ := hl k hk'
        rw [hold k hk']
        exact ⟨h1, h2, fun j hj => by rw [hold j (by omega)]; exact h3 j hj⟩
      · obtain rfl : k = l.length := by simp at hk; omega
        rw [hlast]
        exact ⟨hN, hT, fun j hj => by rw [hold j hj]; exact hno j hj⟩
    refine ⟨hM2, ?_, fun o ho => ?_, ?_, fun D hD hs ht k hk => ?_⟩
    · unfold scopeGet
      rw [hfs, if_pos ⟨by omega, hM2⟩, hlast]
    · unfold scopeGet
      rw [hM2, hM]
      rcases find_cases l o with ⟨m, h1, h2, h3, h4⟩ | ⟨h2, h3⟩
      · have : findS (l ++ [⟨s, t⟩]) o = m := find_first o _ m (by simp; omega) (fun j hj => by rw [hold j (by omega)]; exact h4 j hj) (by rw [hold m h1]; exact h3)
        rw [this, h2, if_pos ⟨by omega, rfl⟩, if_pos ⟨by omega, rfl⟩, hold m h1]
      · have : findS (l ++ [⟨s, t⟩]) o = -1 := find_none o _ (fun j hj => by
          rcases Nat.lt_or_ge j l.length with hj' | hj'
          · rw [hold j hj']; exact h3 j hj'
          · obtain rfl : j = l.length := by simp at hj; omega
            rw [hlast]; exact fun h => ho h.symm)
        rw [this, h2, if_neg (fun h => by omega), if_neg (fun h => by omega)]
    · unfold setIn
      rw [hfs, if_pos (by omega), hlast]
      simp only [Int.toNat_natCast]
      rw [List.set_append_right _ _ (Nat.le_refl _)]
      simp
    · rcases Nat.lt_or_ge k l.length with hk' | hk'
      · rw [hold k hk']; exact hD k hk'
      · obtain rfl : k = l.length := by simp at hk; omega
        rw [hlast]; exact ⟨hs, ht⟩

/-- The comparison of two lists of binds. -/
def same42 (x y : S42) : Bool := x.f0.toList == y.f0.toList && (x.f1.toList == y.f1.toList)
def sameBinds (a b : List S42) : Bool := decide (a.length = b.length) && (List.range a.length).all fun i => same42 (rd_T42 a i) (rd_T42 b i)

theorem same_loop (a b : List S42) (hl : a.length = b.length) (hn : a.length ≤ 140737488355328) (d : Nat) : ∀ (k i : Nat), i + d = a.length → d < k →
    cruciblelaw0_SameBinds.l0 k a b (i : Int) = some ((List.range' i d).all fun i => same42 (rd_T42 a i) (rd_T42 b i)) := by
  induction d with
  | zero =>
    intro k i hi hk
    obtain ⟨k, rfl⟩ : ∃ m, k = m + 1 := ⟨k - 1, by omega⟩
    simp only [cruciblelaw0_SameBinds.l0]
    rw [if_neg (by omega)]
    rfl
  | succ d ih =>
    intro k i hi hk
    obtain ⟨k, rfl⟩ : ∃ m, k = m + 1 := ⟨k - 1, by omega⟩
    simp only [cruciblelaw0_SameBinds.l0]
    rw [if_pos (by omega), if_pos (by omega), if_pos (by omega), wrap_succ (n := a.length) (by omega) (by omega) hn, List.range'_succ, List.all_cons]
    have hs : (!((rd_T42 a i).f0.toList == (rd_T42 b i).f0.toList) || !((rd_T42 a i).f1.toList == (rd_T42 b i).f1.toList)) = !same42 (rd_T42 a i) (rd_T42 b i) := by
      unfold same42
      rw [Bool.not_and]
    rw [hs]
    cases same42 (rd_T42 a i) (rd_T42 b i)
    · simp
    · rw [if_neg (by simp)]
      have := ih k (i + 1) (by omega) (by omega)
      simpa using this
theorem sameBinds_eq (a b : List S42) (hn : a.length ≤ 140737488355328) (k : Nat) (hk : a.length < k) : cruciblelaw0_SameBinds.f k a b = some (sameBinds a b) := by
  unfold cruciblelaw0_SameBinds.f sameBinds
  by_cases hl : a.length = b.length
  · rw [if_pos (by omega)]
    have := same_loop a b hl hn a.length k 0 (by omega) hk
    rw [← List.range_eq_range'] at this
    simpa [hl] using this
  · rw [if_neg (by omega)]
    simp [hl]
theorem sameBinds_self (a : List S42) : sameBinds a a = true := by
  unfold sameBinds
  simp [same42]
end Go.Proofs.Ytchkgljhklfhnaa.Print
