/- The document's answer to lines, plain: the same lines. -/
import Derived.Test.YtbkgcdjbkoeejaaDoorQLines
import Derived.Test.YtbkgcdjbkoeejaaDoorPCrucibleref1Lines
namespace Go.Proofs.YtbkgcdjbkoeejaaDoor.Print
open Go.RowKit Go.Lib Go.Proofs.YtbkgcdjbkoeejaaDoorW.PrintWords Go.Proofs.YtbkgcdjbkoeejaaDoorW.PrintLast
set_option linter.unusedVariables false

theorem bt_nat (s : ByteArray) (i : Nat) (h : i < s.size) : bt s (i : Int) = (s[i].toNat : Int) := by
  unfold bt
  rw [dif_pos (by simpa using h)]
  rfl


theorem plain_loop (s : ByteArray) (a b : Int) (hn : s.size ≤ 140737488355328) (d : Nat) : ∀ (k i : Nat), i + d = s.size → d < k →
    crucibleref1_Plain.l0 k s a b (i : Int) = some (plainL (s.data.toList.drop i) && (decide (a ≤ s.size) && decide ((s.size : Int) ≤ b))) := by
  induction d with
  | zero =>
    intro k i hi hk
    obtain ⟨k, rfl⟩ : ∃ m, k = m + 1 := ⟨k - 1, by omega⟩
    simp only [crucibleref1_Plain.l0]
    rw [if_neg (by omega), drop_end s i (by omega)]
    by_cases h : a ≤ s.size
    · rw [if_pos (by omega)]; simp [h, plainL]
    · rw [if_neg (by omega)]; simp [h]
  | succ d ih =>
    intro k i hi hk
    obtain ⟨k, rfl⟩ : ∃ m, k = m + 1 := ⟨k - 1, by omega⟩
    have hlt : i < s.size := by omega
    have hih := ih k (i + 1) (by omega) (by omega)
    simp only [crucibleref1_Plain.l0]
    rw [if_pos (by omega), if_pos (by omega), bt_nat s i hlt, drop_cons s i hlt, wrap_succ (n := s.size) (by omega) (by omega) hn]
    have hc : ((i : Int) + 1) = ((i + 1 : Nat) : Int) := by omega
    rw [hc, hih]
    have hp : plainL (s[i] :: s.data.toList.drop (i + 1)) = (decide (32 ≤ (s[i].toNat : Int)) && decide ((s[i].toNat : Int) ≤ 126) && plainL (s.data.toList.drop (i + 1))) := rfl
    rw [hp]
    generalize (s[i].toNat : Int) = c at *
    by_cases h1 : c < 32
    · rw [if_pos h1]; simp [show ¬ 32 ≤ c by omega]
    · rw [if_neg h1]
      by_cases h2 : c > 126
      · rw [if_pos h2]; simp [show ¬ c ≤ 126 by omega]
      · rw [if_neg h2]; simp [show 32 ≤ c by omega, show c ≤ 126 by omega]

theorem refPlain (s : ByteArray) (b : Int) (hn : s.size ≤ 140737488355328) (k : Nat) (hk : s.size < k) : crucibleref1_Plain.f k s 0 b = some (plainB s b) := by
  unfold crucibleref1_Plain.f
  have h : crucibleref1_Plain.l0 k s 0 b 0 = _ := plain_loop s 0 b hn s.size k 0 (by omega) hk
  rw [h, List.drop_zero]
  simp [plainB]


def mkB (l : List UInt8) : ByteArray := ⟨l.toArray⟩
theorem mkB_self (s : ByteArray) : mkB s.data.toList = s := rfl
theorem list_tail (s : ByteArray) (h : 1 ≤ s.size) : s.data.toList = s[0] :: (s.extract 1 s.size).data.toList := by
  have := drop_cons s 0 (by omega)
  rw [List.drop_zero] at this
  rw [this, Lib.extract_to_end]
theorem list_init (s : ByteArray) (h : 1 ≤ s.size) : s.data.toList = (s.extract 0 (s.size - 1)).data.toList ++ [s[s.size - 1]] := by
  rw [Lib.extract_data, List.drop_zero, Nat.sub_zero]
  have hl : s.size - 1 < s.data.toList.length := by rw [← Lib.size_eq]; omega
  have e : s[s.size - 1]'(by omega) = s.data.toList[s.size - 1] := rfl
  rw [e, ← List.take_succ_eq_append_getElem hl, List.take_of_length_le (by rw [← Lib.size_eq]; omega)]
theorem byte_eq (c d : UInt8) : ((c.toNat : Int) = (d.toNat : Int)) ↔ c = d := by
  constructor
  · intro h; exact UInt8.toNat_inj.1 (by omega)
  · intro h; rw [h]
theorem ne32 {c : UInt8} (h : ¬ c = 32) : ¬ (c.toNat : Int) = 32 := fun e => h (UInt8.toNat_inj.1 (by have : (32 : UInt8).toNat = 32 := rfl; omega))
theorem ne36 {c : UInt8} (h : ¬ c = 36) : ¬ (c.toNat : Int) = 36 := fun e => h (UInt8.toNat_inj.1 (by have : (36 : UInt8).toNat = 36 := rfl; omega))
theorem ne10 {c : UInt8} (h : ¬ c = 10) : ¬ (c.toNat : Int) = 10 := fun e => h (UInt8.toNat_inj.1 (by have : (10 : UInt8).toNat = 10 := rfl; omega))
theorem wrap_in (x : Int) (h0 : 0 ≤ x) (h1 : x ≤ 140737488355328) : wrap64 x = x := by unfold wrap64; omega
theorem wrap_pred (n : Nat) (h1 : 1 ≤ n) (h2 : n ≤ 140737488355328) : wrap64 ((n : Int) - 1) = ((n - 1 : Nat) : Int) := by
  rw [wrap_in _ (by omega) (by omega)]
  omega
theorem refFront : ∀ (k : Nat) (s : ByteArray), s.size ≤ 140737488355328 → s.size < k → crucibleref1_front.f k s = some (frontB s) := by
  intro k
  unfold crucibleref1_front.f
  induction k with
  | zero => intro s _ h; omega
  | succ k ih =>
    intro s hn hk
    by_cases h0 : 1 ≤ s.size
    · have hl := list_tail s h0
      rw [crucibleref1_front.l0, if_pos (by omega), if_pos (by omega), show (0 : Int) = ((0 : Nat) : Int) from rfl, bt_nat s 0 (by omega)]
      by_cases hc : s[0] = 32
      · have hz : (s.extract 1 s.size).size = s.size - 1 := by simp
        rw [if_pos (by rw [hc]; rfl), if_pos (by omega), ih (s.extract 1 s.size) (by omega) (by omega)]
        unfold frontB Lib.trimLeftB
        rw [hl, List.dropWhile_cons, if_pos (by simpa using hc)]
      · rw [if_neg (ne32 hc)]
        unfold frontB Lib.trimLeftB
        rw [hl, List.dropWhile_cons, if_neg (by simpa using hc), ← hl]
    · rw [crucibleref1_front.l0, if_neg (by omega)]
      have : s.data.toList = [] := List.length_eq_zero_iff.1 (by rw [← Lib.size_eq]; omega)
      unfold frontB Lib.trimLeftB
      rw [this]
      exact congrArg some (ByteArray.ext (Array.toList_inj.1 (by rw [this]; rfl)))
theorem right_snoc (l : List UInt8) (c : UInt8) : Lib.trimRightB (l ++ [c]) 32 = if c = 32 then Lib.trimRightB l 32 else l ++ [c] := by
  unfold Lib.trimRightB
  rw [List.reverse_append, List.reverse_singleton, List.singleton_append, List.dropWhile_cons]
  by_cases h : c = 32
  · rw [if_pos h, if_pos (by simpa using h)]
  · rw [if_neg h, if_neg (by simpa using h)]
    simp
theorem right_cons (c : UInt8) (l : List UInt8) : Lib.trimRightB (c :: l) 32 = if Lib.trimRightB l 32 = [] then (if c = 32 then [] else [c]) else c :: Lib.trimRightB l 32 := by
  obtain ⟨r, rfl⟩ : ∃ r : List UInt8, l = r.reverse := ⟨l.reverse, by simp⟩
  induction r with
  | nil =>
    rw [List.reverse_nil, show c :: ([] : List UInt8) = [] ++ [c] from rfl, right_snoc]
    rfl
  | cons d y ih =>
    rw [List.reverse_cons, show c :: (y.reverse ++ [d]) = (c :: y.reverse) ++ [d] from rfl, right_snoc, right_snoc]
    by_cases hd : d = 32
    · rw [if_pos hd, if_pos hd]
      exact ih
    · rw [if_neg hd, if_neg hd, if_neg (by simp)]
      rfl
theorem trims_comm (l : List UInt8) : Lib.trimRightB (Lib.trimLeftB l 32) 32 = Lib.trimLeftB (Lib.trimRightB l 32) 32 := by
  induction l with
  | nil => rfl
  | cons c l ih =>
    rw [right_cons]
    by_cases hc : c = 32
    · have e1 : Lib.trimLeftB (c :: l) 32 = Lib.trimLeftB l 32 := by unfold Lib.trimLeftB; rw [List.dropWhile_cons, if_pos (by simpa using hc)]
      rw [e1, ih]
      by_cases h : Lib.trimRightB l 32 = []
      · rw [if_pos h, if_pos hc, h]
      · rw [if_neg h]
        unfold Lib.trimLeftB
        rw [List.dropWhile_cons, if_pos (by simpa using hc)]
    · have e1 : ∀ m, Lib.trimLeftB (c :: m) 32 = c :: m := fun m => by unfold Lib.trimLeftB; rw [List.dropWhile_cons, if_neg (by simpa using hc)]
      rw [e1, right_cons]
      by_cases h : Lib.trimRightB l 32 = []
      · rw [if_pos h, if_neg hc, e1]
      · rw [if_neg h, e1]
theorem refRight : ∀ (k : Nat) (s : ByteArray), s.size ≤ 140737488355328 → s.size < k → crucibleref1_trim.l0 k s = some (mkB (Lib.trimRightB s.data.toList 32)) := by
  intro k
  induction k with
  | zero => intro s _ h; omega
  | succ k ih =>
    intro s hn hk
    by_cases h0 : 1 ≤ s.size
    · have hl := list_init s h0
      have hw := wrap_pred s.size h0 hn
      have hz : (s.extract 0 (s.size - 1)).size = s.size - 1 := by simp
      have q0 : (s.size : Int) > 0 := by omega
      have q1 : (0 : Int) ≤ ((s.size - 1 : Nat) : Int) := by omega
      have q2 : ((s.size - 1 : Nat) : Int) < (s.size : Int) := by omega
      have q3 : ((s.size - 1 : Nat) : Int) ≤ (s.size : Int) := by omega
      rw [crucibleref1_trim.l0, hw, if_pos q0, if_pos q1, if_pos q2, bt_nat s (s.size - 1) (by omega)]
      clear hw
      by_cases hc : s[s.size - 1] = 32
      · rw [if_pos (by rw [hc]; rfl), if_pos q3, Int.toNat_natCast, ih _ (by omega) (by omega), hl, right_snoc, if_pos hc]
      · rw [if_neg (ne32 hc), hl, right_snoc, if_neg hc, ← hl]
        rfl
    · rw [crucibleref1_trim.l0, if_neg (by omega)]
      have : s.data.toList = [] := List.length_eq_zero_iff.1 (by rw [← Lib.size_eq]; omega)
      rw [this]
      exact congrArg some (ByteArray.ext (Array.toList_inj.1 (by rw [this]; rfl)))
theorem refTrim (k : Nat) (s : ByteArray) (hn : s.size ≤ 140737488355328) (hk : s.size < k) : crucibleref1_trim.f k s = some (trimBB s) := by
  have hf := front_size s
  unfold crucibleref1_trim.f
  rw [refFront k s hn hk]
  simp only [Option.bind_some]
  rw [refRight k (frontB s) (by omega) (by omega)]
  unfold trimBB Lib.trimB frontB
  rw [← trims_comm]
  rfl

/-! goesOn -/
theorem takeWhile_split (p : UInt8 → Bool) (R : List UInt8) (i : Nat) (h : ∀ c ∈ R.take i, p c = true) (hi : i ≤ R.length) : (R.takeWhile p).length = i + ((R.drop i).takeWhile p).length := by
  conv => lhs; rw [← List.take_append_drop i R]
  rw [List.takeWhile_append_of_pos h, List.length_append, List.length_take]
  omega
theorem tmod_two (n m : Nat) (h : n = m) : (Int.tmod (n : Int) 2 == 1) = (m % 2 == 1) := by
  subst h
  rw [Int.tmod_eq_emod_of_nonneg (by omega), Bool.eq_iff_iff]
  simp only [beq_iff_eq]
  omega
theorem on_go (s : ByteArray) (hn : s.size ≤ 140737488355328) (d : Nat) : ∀ (k i : Nat), i + d = s.size → d < k → (∀ c ∈ s.data.toList.reverse.take i, (c == (36 : UInt8)) = true) → crucibleref1_goesOn.l0 k s (i : Int) = some (onB s) := by
  have hl : s.data.toList.reverse.length = s.size := by rw [List.length_reverse, ← Lib.size_eq]
  induction d with
  | zero =>
    intro k i hi hk h
    obtain ⟨k, rfl⟩ : ∃ m, k = m + 1 := ⟨k - 1, by omega⟩
    have ht := takeWhile_split _ _ i h (by omega)
    rw [List.drop_of_length_le (by omega)] at ht
    have hi2 : tailN s.data.toList = i := by unfold tailN; rw [ht]; rfl
    rw [crucibleref1_goesOn.l0, if_neg (by omega)]
    unfold onB
    rw [hi2, tmod_two i i rfl]
  | succ d ih =>
    intro k i hi hk h
    obtain ⟨k, rfl⟩ : ∃ m, k = m + 1 := ⟨k - 1, by omega⟩
    have hlt : i < s.size := by omega
    have hir : i < s.data.toList.reverse.length := by omega
    have he : s.data.toList.reverse[i] = s[s.size - 1 - i] := by
      rw [List.getElem_reverse]
      have e := Lib.size_eq s
      show s.data.toList[s.data.toList.length - 1 - i] = s.data.toList[s.size - 1 - i]
      congr 1
      try omega
    have ht := takeWhile_split _ _ i h (by omega)
    have hd := List.drop_eq_getElem_cons hir
    rw [he] at hd
    have q0 : (i : Int) < (s.size : Int) := by omega
    have q1 : (0 : Int) ≤ ((s.size - 1 - i : Nat) : Int) := by omega
    have q2 : ((s.size - 1 - i : Nat) : Int) < (s.size : Int) := by omega
    have q3 : s.size - 1 - i < s.size := by omega
    have q4 : 1 ≤ s.size := by omega
    have r1 : (0 : Int) ≤ ((s.size - 1 : Nat) : Int) - (i : Int) := by omega
    have r2 : ((s.size - 1 : Nat) : Int) - (i : Int) ≤ 140737488355328 := by omega
    have r3 : ((s.size - 1 : Nat) : Int) - (i : Int) = ((s.size - 1 - i : Nat) : Int) := by omega
    have hr0 := ih
    have w1 := wrap_pred s.size q4 hn
    have w2 : wrap64 (((s.size - 1 : Nat) : Int) - (i : Int)) = ((s.size - 1 - i : Nat) : Int) := by
      rw [wrap_in _ r1 r2, r3]
    have w3 := wrap_nat i s.size hlt hn
    rw [crucibleref1_goesOn.l0, if_pos q0, w1, w2, if_pos q1, if_pos q2, bt_nat s _ q3, w3]
    clear w1 w2 w3
    by_cases hc : s[s.size - 1 - i] = 36
    · rw [if_pos (by rw [hc]; rfl)]
      refine ih k (i + 1) (by omega) (by omega) (fun c hm => ?_)
      rw [List.take_succ_eq_append_getElem hir] at hm
      rcases List.mem_append.1 hm with hm | hm
      · exact h c hm
      · simp only [List.mem_singleton] at hm
        rw [hm, he, hc]
        rfl
    · rw [if_neg (ne36 hc)]
      rw [hd, List.takeWhile_cons, if_neg (by simpa using hc)] at ht
      have hi2 : tailN s.data.toList = i := by unfold tailN; rw [ht]; rfl
      unfold onB
      rw [hi2, tmod_two i i rfl]
theorem refOn (k : Nat) (s : ByteArray) (hn : s.size ≤ 140737488355328) (hk : s.size < k) : crucibleref1_goesOn.f k s = some (onB s) := by
  unfold crucibleref1_goesOn.f
  exact on_go s hn s.size k 0 (by omega) hk (fun c h => by simp at h)

/-! split -/
theorem split_go (s : ByteArray) (hn : s.size ≤ 4096) (d : Nat) : ∀ (k i fr : Nat) (out : List ByteArray), i + d = s.size → d + 2 < k → fr ≤ i → out.length ≤ i →
    crucibleref1_split.l0 k s 10 out (fr : Int) (i : Int) = some (out ++ (splitL ((s.data.toList.drop fr).take (i - fr)) (s.data.toList.drop i)).map mkB) := by
  have hex : ∀ a b, s.extract a b = mkB ((s.data.toList.drop a).take (b - a)) := fun a b => by
    apply ByteArray.ext
    apply Array.toList_inj.1
    rw [Lib.extract_data]
    rfl
  induction d with
  | zero =>
    intro k i fr out hi hk hf ho
    obtain ⟨k, rfl⟩ : ∃ m, k = m + 1 + 1 := ⟨k - 2, by omega⟩
    obtain rfl : i = s.size := by omega
    have hw : wrap64 ((s.size : Int) + 1) = ((s.size + 1 : Nat) : Int) := by rw [wrap_in _ (by omega) (by omega)]; omega
    have q0 : (s.size : Int) ≤ (s.size : Int) := by omega
    have q1 : (0 : Int) ≤ (fr : Int) := by omega
    have q2 : (fr : Int) ≤ (s.size : Int) := by omega
    have q3 : ¬ ((s.size + 1 : Nat) : Int) ≤ (s.size : Int) := by omega
    have q4 : out.length < 8796093022208 := by omega
    rw [crucibleref1_split.l0, if_pos q0, if_pos rfl, if_pos q1, if_pos q2, if_pos q4, hw, crucibleref1_split.l0, if_neg q3, Int.toNat_natCast, Int.toNat_natCast, hex, List.drop_of_length_le (show s.data.toList.length ≤ s.size by rw [← Lib.size_eq]; omega)]
    rfl
  | succ d ih =>
    intro k i fr out hi hk hf ho
    obtain ⟨k, rfl⟩ : ∃ m, k = m + 1 := ⟨k - 1, by omega⟩
    have hlt : i < s.size := by omega
    have hdr := drop_cons s i hlt
    have hw := wrap_nat i s.size hlt (by omega)
    have q0 : (i : Int) ≤ (s.size : Int) := by omega
    have q00 : ¬ (i : Int) = (s.size : Int) := by omega
    have q1 : (0 : Int) ≤ (i : Int) := by omega
    have q2 : (i : Int) < (s.size : Int) := by omega
    have q3 : (0 : Int) ≤ (fr : Int) := by omega
    have q4 : (fr : Int) ≤ (i : Int) := by omega
    have q5 : out.length < 8796093022208 := by omega
    rw [crucibleref1_split.l0, if_pos q0, if_neg q00, if_pos q1, if_pos q2, bt_nat s i hlt, hw]
    clear hw
    by_cases hc : s[i] = 10
    · have hr := ih k (i + 1) (i + 1) (out ++ [s.extract fr i]) (by omega) (by omega) (by omega) (by simp; omega)
      rw [if_pos (by rw [hc]; rfl), if_pos q3, if_pos q4, if_pos q5, Int.toNat_natCast, Int.toNat_natCast, hr, hdr, hex]
      rw [show i + 1 - (i + 1) = 0 by omega, List.take_zero]
      simp only [splitL]
      rw [if_pos hc]
      simp
    · have hr := ih k (i + 1) fr out (by omega) (by omega) (by omega) (by omega)
      have htk : (s.data.toList.drop fr).take (i + 1 - fr) = (s.data.toList.drop fr).take (i - fr) ++ [s[i]] := by
        have hl : i - fr < (s.data.toList.drop fr).length := by rw [List.length_drop, ← Lib.size_eq]; omega
        rw [show i + 1 - fr = (i - fr) + 1 by omega, List.take_succ_eq_append_getElem hl, List.getElem_drop]
        congr 2
        simp only [show fr + (i - fr) = i by omega]
        rfl
      rw [if_neg (ne10 hc), hr, hdr, htk]
      simp only [splitL]
      rw [if_neg hc]
theorem refSplit (k : Nat) (s : ByteArray) (hn : s.size ≤ 4096) (hk : s.size + 2 < k) : crucibleref1_split.f k s 10 = some ((splitL [] s.data.toList).map mkB) := by
  unfold crucibleref1_split.f
  have := split_go s hn s.size k 0 0 [] (by omega) hk (by omega) (by simp)
  rw [List.drop_zero, List.take_zero, List.nil_append] at this
  exact this
end Go.Proofs.YtbkgcdjbkoeejaaDoor.Print
