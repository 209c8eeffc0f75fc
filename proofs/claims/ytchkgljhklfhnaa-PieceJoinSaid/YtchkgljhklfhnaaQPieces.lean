import Derived.Test.YtchkgljhklfhnaaQCut
import Derived.Test.YtchkgljhklfhnaaPCruciblelaw3Awake
import Derived.Test.YtchkgljhklfhnaaPCruciblelaw0SpoilPieces
/- What every program answers that is one: the pieces. -/
namespace Go.Proofs.Ytchkgljhklfhnaa.Print
theorem awake3_6 : cruciblelaw3_awake.f 8 = some true := by decide +kernel
end Go.Proofs.Ytchkgljhklfhnaa.Print

/- Plain laws on lists of pieces. -/
namespace Go.Proofs.Ytchkgljhklfhnaa.Print
open Go.RowKit Go.Lib Go.Shelf Go.Proofs.YtchkgljhklfhnaaW.PrintWords Go.Proofs.YtchkgljhklfhnaaW.PrintLast Go.Proofs.YtchkgljhklfhnaaW.PrintMore

theorem few_go : ∀ (k : Nat) (rest : ByteArray) (out : List S57) (bad : Bool) (N : Nat), Few N rest.size out → Few N 0 (cutGo k rest out bad).1 := by
  intro k
  induction k with
  | zero => intro rest out bad N h; exact few_le h (by omega)
  | succ k ih =>
    intro rest out bad N h
    simp only [cutGo]
    split
    · exact ih _ _ _ _ (few_round rest h).1
    · exact few_le h (by omega)
theorem few_cut (s : ByteArray) : Few 2048 0 (cutOf s).1 := by
  unfold cutOf
  split
  · rename_i hp
    have h48 : s.size ≤ 2048 := by
      unfold plainB at hp
      simp at hp
      omega
    split
    · exact ⟨by simp, fun x hx => by simp at hx⟩
    · exact few_go _ _ _ _ _ ⟨by simp; omega, fun x hx => by simp at hx⟩
  · exact ⟨by simp, fun x hx => by simp at hx⟩
theorem spoil_go : ∀ (k i : Nat) (l : List S57), i ≤ l.length → l.length ≤ 2048 → l.length - i < k → (∀ j, i ≤ j → j < l.length → (rd_T57 l (j : Int)).f1.size ≤ 2048) → ∃ r, cruciblelaw0_SpoilPieces.l0 k l i = some r := by
  intro k
  induction k with
  | zero => intro i l _ _ h; omega
  | succ k ih =>
    intro i l hi hl hk hz
    by_cases h : i < l.length
    · have hzi := hz i (by omega) h
      obtain ⟨r, hr⟩ := ih (i + 1) (l.set i ⟨(rd_T57 l i).f0, (rd_T57 l i).f1 ++ ⟨#[63]⟩⟩) (by rw [List.length_set]; omega) (by rw [List.length_set]; omega) (by rw [List.length_set]; omega) (fun j hj hjl => by
        rw [List.length_set] at hjl
        have : rd_T57 (l.set i ⟨(rd_T57 l i).f0, (rd_T57 l i).f1 ++ ⟨#[63]⟩⟩) j = rd_T57 l j := by
          simp only [rd_T57, List.getD_eq_getElem?_getD, Int.toNat_natCast]
          rw [List.getElem?_set_ne (by omega)]
        rw [this]
        exact hz j (by omega) hjl)
      refine ⟨r, ?_⟩
      simp only [cruciblelaw0_SpoilPieces.l0]
      rw [if_pos (by omega), if_pos (by omega), if_pos (by omega), wrap_succ (n := l.length) (by omega) (by omega) (by omega)]
      exact hr
    · refine ⟨l, ?_⟩
      simp only [cruciblelaw0_SpoilPieces.l0]
      rw [if_neg (by omega)]
theorem spoil_some (l : List S57) (h : Few 2048 0 l) (k : Nat) (hk : 2049 ≤ k) : ∃ r, cruciblelaw0_SpoilPieces.f k l = some r :=
  spoil_go k 0 l (by omega) (by have := h.1; omega) (by have := h.1; omega) fun j _ hj => by have := h.2 _ (rd57_mem l j hj); omega
theorem samePieces_go (l : List S57) (hl : l.length ≤ 140737488355328) : ∀ (k i : Nat), i ≤ l.length → l.length - i < k → cruciblelaw0_SamePieces.l0 k l l i = some true := by
  intro k
  induction k with
  | zero => intro i _ h; omega
  | succ k ih =>
    intro i hi hk
    simp only [cruciblelaw0_SamePieces.l0]
    by_cases h : i < l.length
    · rw [if_pos (by omega), if_pos (by omega), if_pos (by omega), wrap_succ (n := l.length) (by omega) (by omega) hl, if_neg (by simp)]
      exact ih (i + 1) (by omega) (by omega)
    · rw [if_neg (by omega)]
theorem samePieces_self (l : List S57) (hl : l.length ≤ 140737488355328) (k : Nat) (hk : l.length < k) : cruciblelaw0_SamePieces.f k l l = some true := by
  unfold cruciblelaw0_SamePieces.f
  rw [if_pos rfl]
  exact samePieces_go l hl k 0 (by omega) (by omega)
theorem awake3 (k : Nat) (hk : 8 ≤ k) : cruciblelaw3_awake.f k = some true :=
  at_rounds (g := fun k => cruciblelaw3_awake.f k) (fun k => cruciblelaw3_awake.mono k) hk awake3_6
theorem cut_some (s : ByteArray) (h : s.size ≤ 140737488355328) : pieces_Cut.f s = some (refOf s) := by
  unfold pieces_Cut.f
  rw [if_pos h, cutOf_eq]
theorem refCut_some (s : ByteArray) (h : s.size ≤ 140737488355328) : crucibleref1_Cut.f s = some (refOf s) := by
  unfold crucibleref1_Cut.f
  rw [if_pos h]
theorem few_ref (s : ByteArray) : Few 2048 0 (refOf s).1 := cutOf_eq s ▸ few_cut s
end Go.Proofs.Ytchkgljhklfhnaa.Print
