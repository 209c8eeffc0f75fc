/- Plain laws on scopes: the reference's answers are scopeMay, scopeSet and scopeGet, for all binds whose texts have at most D bytes. -/
import Derived.Test.YtbkgcdjbkoeejaaQName
import Derived.Test.YtbkgcdjbkoeejaaHSet
import Derived.Test.YtbkgcdjbkoeejaaPCrucibleref1GetVar
namespace Go.Proofs.Ytbkgcdjbkoeejaa.Print
open Go.RowKit Go.Proofs.YtbkgcdjbkoeejaaW.PrintWords Go.Proofs.YtbkgcdjbkoeejaaW.PrintLast

theorem plain_loop (s : ByteArray) (a b : Int) (hn : s.size ≤ 140737488355328) (d : Nat) : ∀ (k i : Nat), i + d = s.size → d < k →
    crucibleref1_Plain.l0 k s a b (i : Int) = some (plainL (s.data.toList.drop i) && (decide (a ≤ s.size) && decide ((s.size : Int) ≤ b))) := by
  induction d with
  | zero =>
    intro k i hi hk
    obtain ⟨k, rfl⟩ : ∃ m, k = m + 1 := ⟨k - 1, by omega⟩
    simp only [crucibleref1_Plain.l0]
    rw [if_neg (by omega), drop_end s i (by omega)]
    by_cases h : a ≤ s.size
    · rw [if_pos (by omega)]; simp [h, plainL]
    · rw [if_neg (by omega)]; simp [h]
  | succ d ih =>
    intro k i hi hk
    obtain ⟨k, rfl⟩ : ∃ m, k = m + 1 := ⟨k - 1, by omega⟩
    have hlt : i < s.size := by omega
    have hih := ih k (i + 1) (by omega) (by omega)
    simp only [crucibleref1_Plain.l0]
    rw [if_pos (by omega), if_pos (by omega), bt_nat s i hlt, drop_cons s i hlt, wrap_succ (n := s.size) (by omega) (by omega) hn]
    have hc : ((i : Int) + 1) = ((i + 1 : Nat) : Int) := by omega
    rw [hc, hih]
    have hp : plainL (s[i] :: s.data.toList.drop (i + 1)) = (decide (32 ≤ (s[i].toNat : Int)) && decide ((s[i].toNat : Int) ≤ 126) && plainL (s.data.toList.drop (i + 1))) := rfl
    rw [hp]
    generalize (s[i].toNat : Int) = c at *
    by_cases h1 : c < 32
    · rw [if_pos h1]; simp [show ¬ 32 ≤ c by omega]
    · rw [if_neg h1]
      by_cases h2 : c > 126
      · rw [if_pos h2]; simp [show ¬ c ≤ 126 by omega]
      · rw [if_neg h2]; simp [show 32 ≤ c by omega, show c ≤ 126 by omega]

theorem refPlain (s : ByteArray) (b : Int) (hn : s.size ≤ 140737488355328) (k : Nat) (hk : s.size < k) : crucibleref1_Plain.f k s 0 b = some (plainB s b) := by
  unfold crucibleref1_Plain.f
  have h : crucibleref1_Plain.l0 k s 0 b 0 = _ := plain_loop s 0 b hn s.size k 0 (by omega) hk
  rw [h, List.drop_zero]
  simp [plainB]

def textsOk (D : Nat) (l : List S34) : Prop := ∀ k, k < l.length → (rd_T34 l k).f0.size ≤ D ∧ (rd_T34 l k).f1.size ≤ D
theorem long_of {D : Nat} {l : List S34} (h : textsOk D l) (hD : D ≤ 140737488355328) : longOk l = true := by
  unfold longOk
  rw [List.all_eq_true]
  intro x hx
  obtain ⟨k, hk, rfl⟩ := List.mem_iff_getElem.1 hx
  have := (h k hk).2
  rw [rd_get l k hk] at this
  simp
  omega

/-! the place of a name -/
theorem find_skip (s : ByteArray) (l : List S34) (d : Nat) : ∀ k, (k + d ≤ l.length) → (∀ j, k ≤ j → j < k + d → (rd_T34 l j).f0.toList ≠ s.toList) → findFrom s (l.drop k) k = findFrom s (l.drop (k + d)) (k + d) := by
  induction d with
  | zero => intro k _ _; rfl
  | succ d ih =>
    intro k hk h
    rw [findFrom_drop s l k (by omega), if_neg (by simpa using h k (by omega) (by omega)), ih (k + 1) (by omega) (fun j h1 h2 => h j (by omega) (by omega))]
    rw [show k + 1 + d = k + (d + 1) by omega]
theorem find_first (s : ByteArray) (l : List S34) (i : Nat) (hi : i < l.length) (h : ∀ j, j < i → (rd_T34 l j).f0.toList ≠ s.toList) (he : (rd_T34 l i).f0.toList = s.toList) : findS l s = i := by
  have := find_skip s l i 0 (by omega) (fun j _ h2 => h j (by omega))
  unfold findS
  rw [List.drop_zero, Nat.zero_add] at this
  rw [this, findFrom_drop s l i hi, if_pos (by simpa using he)]
theorem find_none (s : ByteArray) (l : List S34) (h : ∀ j, j < l.length → (rd_T34 l j).f0.toList ≠ s.toList) : findS l s = -1 := by
  have := find_skip s l l.length 0 (by omega) (fun j _ h2 => h j (by omega))
  unfold findS
  rw [List.drop_zero, Nat.zero_add] at this
  rw [this, List.drop_of_length_le (Nat.le_refl _)]
  rfl
theorem first_of (P : Nat → Prop) (n : Nat) (h : ∃ j, j < n ∧ P j) : ∃ i, i < n ∧ P i ∧ ∀ j, j < i → ¬ P j := by
  induction n with
  | zero => obtain ⟨j, hj, _⟩ := h; omega
  | succ n ih =>
    by_cases hx : ∃ j, j < n ∧ P j
    · obtain ⟨i, h1, h2, h3⟩ := ih hx
      exact ⟨i, by omega, h2, h3⟩
    · obtain ⟨j, hj, hp⟩ := h
      have : j = n := by
        rcases Nat.lt_or_ge j n with h1 | h1
        · exact absurd ⟨j, h1, hp⟩ hx
        · omega
      subst this
      exact ⟨j, by omega, hp, fun i hi hpi => hx ⟨i, hi, hpi⟩⟩
theorem find_self (l : List S34) (i : Nat) (hi : i < l.length) : findS l (rd_T34 l i).f0 = i ↔ ∀ j, j < i → (rd_T34 l j).f0.toList ≠ (rd_T34 l i).f0.toList := by
  constructor
  · intro h j hj he
    obtain ⟨m, h1, h2, h3⟩ := first_of (fun j => (rd_T34 l j).f0.toList = (rd_T34 l i).f0.toList) i ⟨j, hj, he⟩
    have := find_first (rd_T34 l i).f0 l m (by omega) h3 h2
    omega
  · intro h
    exact find_first _ l i hi h rfl

theorem inner_all (l : List S34) (i : Nat) (hi : i < l.length) (hn : l.length ≤ 140737488355328) (d : Nat) : ∀ (k j : Nat), j + d = i → (∀ m, j ≤ m → m < i → (rd_T34 l m).f0.toList ≠ (rd_T34 l i).f0.toList) →
    crucibleref1_ScopeMay.l1 (k + d + 1) l i j = crucibleref1_ScopeMay.l0 k l ((i + 1 : Nat) : Int) := by
  induction d with
  | zero =>
    intro k j hj h
    simp only [crucibleref1_ScopeMay.l1]
    rw [if_neg (by omega), wrap_succ (n := l.length) (by omega) (by omega) hn]
    rfl
  | succ d ih =>
    intro k j hj h
    rw [show k + (d + 1) + 1 = (k + d + 1) + 1 by omega]
    simp only [crucibleref1_ScopeMay.l1]
    rw [if_pos (by omega), if_pos (by omega), if_pos (by omega), if_pos (by omega), if_pos (by omega), if_neg (h j (by omega) (by omega)), wrap_succ (n := l.length) (by omega) (by omega) hn]
    exact ih k (j + 1) (by omega) (fun m h1 h2 => h m (by omega) h2)
theorem inner_hit (l : List S34) (i : Nat) (hi : i < l.length) (hn : l.length ≤ 140737488355328) (d : Nat) : ∀ (k j : Nat), j + d = i → (∃ m, j ≤ m ∧ m < i ∧ (rd_T34 l m).f0.toList = (rd_T34 l i).f0.toList) → d < k →
    crucibleref1_ScopeMay.l1 k l i j = some false := by
  induction d with
  | zero => intro k j hj ⟨m, h1, h2, _⟩; omega
  | succ d ih =>
    intro k j hj h hk
    obtain ⟨k, rfl⟩ : ∃ m, k = m + 1 := ⟨k - 1, by omega⟩
    simp only [crucibleref1_ScopeMay.l1]
    rw [if_pos (by omega), if_pos (by omega), if_pos (by omega), if_pos (by omega), if_pos (by omega)]
    by_cases he : (rd_T34 l j).f0.toList = (rd_T34 l i).f0.toList
    · rw [if_pos he]
    · rw [if_neg he, wrap_succ (n := l.length) (by omega) (by omega) hn]
      obtain ⟨m, h1, h2, h3⟩ := h
      refine ih k (j + 1) (by omega) ⟨m, ?_, h2, h3⟩ (by omega)
      rcases Nat.lt_or_ge j m with h4 | h4
      · omega
      · obtain rfl : j = m := by omega
        exact absurd h3 he

theorem scope_loop (D : Nat) (hD : D ≤ 140737488355328) (l : List S34) (hn : l.length ≤ 140737488355328) (ht : textsOk D l) (d : Nat) : ∀ (k i : Nat), i + d = l.length → d * (l.length + 3) + D + 2 ≤ k →
    crucibleref1_ScopeMay.l0 k l (i : Int) = some (((List.range' i d).all (okAt l)) && decide ((l.length : Int) ≤ 16)) := by
  induction d with
  | zero =>
    intro k i hi hk
    obtain ⟨k, rfl⟩ : ∃ m, k = m + 1 := ⟨k - 1, by omega⟩
    simp only [crucibleref1_ScopeMay.l0]
    rw [if_neg (by omega)]
    simp
  | succ d ih =>
    intro k i hi hk
    rw [Nat.succ_mul] at hk
    obtain ⟨k, rfl⟩ : ∃ m, k = m + 1 := ⟨k - 1, by omega⟩
    have hlt : i < l.length := by omega
    obtain ⟨h0, h1⟩ := ht i hlt
    simp only [crucibleref1_ScopeMay.l0]
    rw [if_pos (by omega), if_pos (by omega), refNameMay _ (by omega) k (by omega), Option.bind_some]
    have hok : okAt l i = (nameMay (rd_T34 l i).f0 && (plainB (rd_T34 l i).f1 256 && findS l (rd_T34 l i).f0 == (i : Int))) := rfl
    rw [List.range'_succ, List.all_cons, hok]
    by_cases hN : nameMay (rd_T34 l i).f0 = true
    · rw [if_pos hN, refPlain _ _ (by omega) k (by omega), Option.bind_some, hN]
      obtain ⟨k, rfl⟩ : ∃ m, k = m + 1 := ⟨k - 1, by omega⟩
      simp only [crucibleref1_ScopeMay.j1]
      cases hP : plainB (rd_T34 l i).f1 256
      · simp
      · rw [if_neg (by simp)]
        by_cases hF : ∀ j, j < i → (rd_T34 l j).f0.toList ≠ (rd_T34 l i).f0.toList
        · obtain ⟨z, hz⟩ : ∃ z, k = z + i + 1 := ⟨k - i - 1, by omega⟩
          rw [hz, show (0 : Int) = ((0 : Nat) : Int) from rfl, inner_all l i hlt hn i z 0 (by omega) (fun m _ h => hF m h), ih z (i + 1) (by omega) (by omega)]
          rw [(find_self l i hlt).2 hF]
          simp
        · have hF' : ∃ m, 0 ≤ m ∧ m < i ∧ (rd_T34 l m).f0.toList = (rd_T34 l i).f0.toList := by
            apply Classical.byContradiction
            intro hx
            exact hF fun j hj he => hx ⟨j, by omega, hj, he⟩
          rw [show (0 : Int) = ((0 : Nat) : Int) from rfl, inner_hit l i hlt hn i k 0 (by omega) hF' (by omega)]
          have : (findS l (rd_T34 l i).f0 == (i : Int)) = false := by
            rw [beq_eq_false_iff_ne]
            exact fun h => hF ((find_self l i hlt).1 h)
          rw [this]
          simp
    · rw [if_neg hN]
      obtain ⟨k, rfl⟩ : ∃ m, k = m + 1 := ⟨k - 1, by omega⟩
      simp only [crucibleref1_ScopeMay.j1]
      simp [hN]

/-- Rounds that are enough for a scope. -/
def enough (D : Nat) (l : List S34) : Nat := l.length * (l.length + 3) + D + 2
theorem refScopeMay (D : Nat) (hD : D ≤ 140737488355328) (l : List S34) (hn : l.length ≤ 140737488355328) (ht : textsOk D l) (k : Nat) (hk : enough D l ≤ k) : crucibleref1_ScopeMay.f k l = some (scopeMay l) := by
  unfold crucibleref1_ScopeMay.f
  rw [show (0 : Int) = ((0 : Nat) : Int) from rfl, scope_loop D hD l hn ht l.length k 0 (by omega) hk]
  rw [← List.range_eq_range']
  rfl

theorem rd_nat (l : List S34) (k : Nat) : rd_T34 l ((k : Nat) : Int) = rd_T34 l k := rfl
theorem get_loop (D : Nat) (hD : D ≤ 140737488355328) (l : List S34) (hn : l.length ≤ 140737488355328) (ht : textsOk D l) (s : ByteArray) (hM : scopeMay l = true) (d : Nat) : ∀ (k i : Nat), i + d = l.length → 2 * d + enough D l + 2 ≤ k → (∀ j, j < i → (rd_T34 l j).f0.toList ≠ s.toList) →
    crucibleref1_GetVar.l0 k l s (i : Int) = some (scopeGet l s) := by
  have hl := may_len hM
  induction d with
  | zero =>
    intro k i hi hk h
    obtain ⟨k, rfl⟩ : ∃ m, k = m + 2 := ⟨k - 2, by omega⟩
    have hf := find_none s l (fun j hj => h j (by omega))
    simp only [crucibleref1_GetVar.l0, crucibleref1_GetVar.j1]
    rw [if_neg (by omega), if_neg (by simp)]
    unfold scopeGet
    rw [if_neg (fun h => by omega)]
  | succ d ih =>
    intro k i hi hk h
    obtain ⟨k, rfl⟩ : ∃ m, k = m + 2 := ⟨k - 2, by omega⟩
    simp only [crucibleref1_GetVar.l0]
    rw [if_pos (by omega), refScopeMay D hD l hn ht _ (by omega), Option.bind_some, hM]
    simp only [crucibleref1_GetVar.j1]
    rw [if_pos trivial, if_pos (by omega), if_pos (by omega)]
    by_cases he : (rd_T34 l i).f0.toList = s.toList
    · have hf := find_first s l i (by omega) h he
      rw [if_pos he]
      unfold scopeGet
      rw [if_pos ⟨by omega, hM⟩, hf]
    · rw [if_neg he, wrap_succ (n := l.length) (by omega) (by omega) hn]
      refine ih k (i + 1) (by omega) (by omega) (fun j hj => ?_)
      rcases Nat.lt_or_ge j i with h1 | h1
      · exact h j h1
      · obtain rfl : j = i := by omega
        exact he

theorem refGet (D : Nat) (hD : D ≤ 140737488355328) (l : List S34) (hn : l.length ≤ 140737488355328) (ht : textsOk D l) (s : ByteArray) (k : Nat) (hk : enough D l + 40 ≤ k) :
    crucibleref1_GetVar.f k l s = some (scopeGet l s) := by
  unfold crucibleref1_GetVar.f
  by_cases hM : scopeMay l = true
  · have hl := may_len hM
    exact get_loop D hD l hn ht s hM l.length k 0 (by omega) (by omega) (fun j hj => by omega)
  · obtain ⟨k, rfl⟩ : ∃ m, k = m + 2 := ⟨k - 2, by omega⟩
    simp only [crucibleref1_GetVar.l0]
    have hg : scopeGet l s = ⟨#[]⟩ := by unfold scopeGet; rw [if_neg (fun h => hM h.2)]
    by_cases h0 : (0 : Int) < l.length
    · rw [if_pos h0, refScopeMay D hD l hn ht _ (by omega), Option.bind_some]
      simp only [crucibleref1_GetVar.j1]
      rw [if_neg hM, hg]
    · rw [if_neg h0]
      simp only [crucibleref1_GetVar.j1]
      rw [if_neg (by simp), hg]
end Go.Proofs.Ytbkgcdjbkoeejaa.Print
