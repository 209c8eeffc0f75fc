/- What the law ScopeRow computes, plain: eight names, set in a row. -/
import Derived.Test.YtchkgljhklfhnaaQSet
namespace Go.Proofs.Ytchkgljhklfhnaa.Print
open Go.RowKit Go.Lib Go.Shelf Go.Proofs.YtchkgljhklfhnaaW.PrintWords Go.Proofs.YtchkgljhklfhnaaW.PrintLast Go.Proofs.YtchkgljhklfhnaaW.PrintMore

def vn (k : Nat) : ByteArray := ⟨#[118]⟩ ++ ⟨#[UInt8.ofNat (48 + k)]⟩
def upd (want : Nat → ByteArray) (K : Nat) (t : ByteArray) : Nat → ByteArray := fun k => if k = K then t else want k
def bsOf (row : List Nat) (want : Nat → ByteArray) : List S42 := row.map fun k => ⟨vn k, want k⟩
def RInv (row : List Nat) (want : Nat → ByteArray) : Prop :=
  row.Nodup ∧ (∀ k ∈ row, k < 8 ∧ (want k).size = 1 ∧ plainB (want k) 256 = true) ∧ ∀ k, k ∉ row → want k = ⟨#[]⟩
theorem vn_inj : ∀ k j : Fin 8, (vn k.val).toList = (vn j.val).toList → k = j := by decide +kernel
theorem vn_may : ∀ k : Fin 8, nameMay (vn k.val) = true := by decide +kernel
theorem vn_ne {k j : Nat} (hk : k < 8) (hj : j < 8) (h : k ≠ j) : (vn k).toList ≠ (vn j).toList := fun e => h (by
  have := vn_inj ⟨k, hk⟩ ⟨j, hj⟩ e
  exact congrArg Fin.val this)
theorem nodup_len : ∀ (n : Nat) (l : List Nat), l.Nodup → (∀ x ∈ l, x < n) → l.length ≤ n := by
  intro n
  induction n with
  | zero =>
    intro l _ h
    cases l with
    | nil => exact Nat.le_refl _
    | cons x xs => exact absurd (h x (by simp)) (by omega)
  | succ n ih =>
    intro l hd h
    by_cases hm : n ∈ l
    · have := ih (l.erase n) (hd.erase n) (fun x hx => by
        rw [hd.mem_erase_iff] at hx
        have := h x hx.2
        omega)
      rw [List.length_erase_of_mem hm] at this
      omega
    · have := ih l hd (fun x hx => by
        have := h x hx
        have : x ≠ n := fun e => hm (e ▸ hx)
        omega)
      omega
theorem row_len {row : List Nat} {want : Nat → ByteArray} (h : RInv row want) : row.length ≤ 8 := nodup_len 8 row h.1 fun x hx => (h.2.1 x hx).1
theorem bs_len (row : List Nat) (want : Nat → ByteArray) : (bsOf row want).length = row.length := by simp [bsOf]
theorem bs_rd (row : List Nat) (want : Nat → ByteArray) (i : Nat) (h : i < row.length) : rd_T42 (bsOf row want) (i : Int) = ⟨vn row[i], want row[i]⟩ := by
  simp [rd_T42, bsOf, h]
theorem row_ne {row : List Nat} (hd : row.Nodup) {i j : Nat} (hi : i < row.length) (hj : j < row.length) (h : i ≠ j) : row[i] ≠ row[j] := by
  rcases Nat.lt_or_gt_of_ne h with hlt | hlt
  · exact (List.pairwise_iff_getElem.1 hd) i j hi hj hlt
  · exact fun e => (List.pairwise_iff_getElem.1 hd) j i hj hi hlt e.symm
theorem may_bs {row : List Nat} {want : Nat → ByteArray} (h : RInv row want) : scopeMay (bsOf row want) = true := by
  refine (may_iff _).2 ⟨fun k hk => ?_, ?_⟩
  · rw [bs_len] at hk
    have hm := h.2.1 row[k] (List.getElem_mem hk)
    rw [bs_rd row want k hk]
    refine ⟨vn_may ⟨row[k], hm.1⟩, hm.2.2, fun j hj => ?_⟩
    rw [bs_rd row want j (by omega)]
    exact vn_ne (h.2.1 row[j] (List.getElem_mem (by omega))).1 hm.1 (row_ne h.1 (by omega) hk (by omega))
  · rw [bs_len]
    have := row_len h
    omega
theorem find_bs {row : List Nat} {want : Nat → ByteArray} (h : RInv row want) (i : Nat) (hi : i < row.length) : findS (bsOf row want) (vn row[i]) = i := by
  refine find_first _ _ i (by rw [bs_len]; exact hi) (fun j hj => ?_) (by rw [bs_rd row want i hi])
  rw [bs_rd row want j (by omega)]
  exact vn_ne (h.2.1 row[j] (List.getElem_mem (by omega))).1 (h.2.1 row[i] (List.getElem_mem hi)).1 (row_ne h.1 (by omega) hi (by omega))
theorem get_bs {row : List Nat} {want : Nat → ByteArray} (h : RInv row want) (i : Nat) (hi : i < row.length) : scopeGet (bsOf row want) (vn row[i]) = want row[i] := by
  unfold scopeGet
  rw [find_bs h i hi, if_pos ⟨by omega, may_bs h⟩, bs_rd row want i hi]
theorem set_bs {row : List Nat} {want : Nat → ByteArray} (h : RInv row want) (K : Nat) (hK : K < 8) (t : ByteArray) (ht : t.size = 1) (hp : plainB t 256 = true) :
    scopeSet (bsOf row want) (vn K) t = (bsOf (if K ∈ row then row else row ++ [K]) (upd want K t), 0) ∧ RInv (if K ∈ row then row else row ++ [K]) (upd want K t) := by
  have hl := row_len h
  have hs : scopeSet (bsOf row want) (vn K) t = setIn (bsOf row want) (vn K) t := by
    unfold scopeSet
    rw [if_pos (by rw [may_bs h, vn_may ⟨K, hK⟩, hp]; rfl)]
  rw [hs]
  by_cases hm : K ∈ row
  · rw [if_pos hm]
    obtain ⟨i, hi, rfl⟩ := List.mem_iff_getElem.1 hm
    constructor
    · unfold setIn
      rw [find_bs h i hi, if_pos (by omega), bs_rd row want i hi, Int.toNat_natCast]
      congr 1
      apply List.ext_getElem
      · simp [bsOf]
      · intro j h1 h2
        simp only [List.length_set, bs_len] at h1
        rw [List.getElem_set]
        by_cases e : i = j
        · subst e
          simp [bsOf, upd]
        · rw [if_neg e]
          simp [bsOf, upd, row_ne h.1 h1 hi (fun x => e x.symm)]
    · refine ⟨h.1, fun k hk => ⟨(h.2.1 k hk).1, ?_⟩, fun k hk => ?_⟩
      · unfold upd
        split
        · exact ⟨ht, hp⟩
        · exact (h.2.1 k hk).2
      · unfold upd
        rw [if_neg (fun e : k = row[i] => hk (by rw [e]; exact hm))]
        exact h.2.2 k hk
  · rw [if_neg hm]
    have hk8 : ∀ k ∈ row, k < 8 := fun k hk => (h.2.1 k hk).1
    constructor
    · unfold setIn
      rw [find_none _ _ (fun j hj => by
        rw [bs_len] at hj
        rw [bs_rd row want j hj]
        exact vn_ne (hk8 _ (List.getElem_mem hj)) hK (fun e => hm (by rw [← e]; exact List.getElem_mem hj))), if_neg (by omega), if_neg (by rw [bs_len]; omega)]
      congr 1
      unfold bsOf
      rw [List.map_append]
      congr 1
      · apply List.map_congr_left
        intro k hk
        have : k ≠ K := fun e => hm (e ▸ hk)
        simp [upd, this]
      · simp [upd]
    · refine ⟨?_, fun k hk => ?_, fun k hk => ?_⟩
      · rw [List.nodup_append]
        exact ⟨h.1, by simp, fun a ha b hb => by simp at hb; subst hb; exact fun e => hm (e ▸ ha)⟩
      · rcases List.mem_append.1 hk with hk | hk
        · have hne : k ≠ K := fun e => hm (e ▸ hk)
          have := h.2.1 k hk
          unfold upd
          rw [if_neg hne]
          exact this
        · simp at hk
          subst hk
          unfold upd
          rw [if_pos rfl]
          exact ⟨hK, ht, hp⟩
      · simp at hk
        unfold upd
        rw [if_neg hk.2]
        exact h.2.2 k hk.1
theorem want_iff {row : List Nat} {want : Nat → ByteArray} (h : RInv row want) (K : Nat) : (want K).toList = [] ↔ K ∉ row := by
  constructor
  · intro e hm
    have := (h.2.1 K hm).2.1
    rw [Lib.size_eq, ← Lib.toList_data, e] at this
    simp at this
  · intro hm
    rw [h.2.2 K hm, Lib.toList_data]
theorem rinv_nil : RInv [] (fun _ => ⟨#[]⟩) := ⟨by simp, fun k hk => by simp at hk, fun _ _ => rfl⟩
end Go.Proofs.Ytchkgljhklfhnaa.Print
