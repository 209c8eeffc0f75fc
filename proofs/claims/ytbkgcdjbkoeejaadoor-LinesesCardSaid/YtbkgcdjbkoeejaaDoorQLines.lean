/- Plain laws of lines: rows, one behind the other. -/
import Derived.Test.YtbkgcdjbkoeejaaDoorHLines
import Derived.Test.YtbkgcdjbkoeejaaDoorPCruciblelaw6Awake
namespace Go.Proofs.YtbkgcdjbkoeejaaDoor.Print
open Go.RowKit Go.Lib Go.Proofs.YtbkgcdjbkoeejaaDoorW.PrintWords Go.Proofs.YtbkgcdjbkoeejaaDoorW.PrintLast

theorem awake6 (k : Nat) (hk : 40 ≤ k) : cruciblelaw6_awake.f k = some true := by
  have h : cruciblelaw6_awake.f 40 = some true := by decide +kernel
  exact at_rounds (g := fun k => cruciblelaw6_awake.f k) (fun k => cruciblelaw6_awake.mono k) hk h
theorem num_eq (x : Int) : cruciblelaw0_Num.f x = some x := rfl
theorem wrap_succ {i : Int} {n : Nat} (h0 : 0 ≤ i) (h : i < (n : Int)) (hn : n ≤ 140737488355328) : wrap64 (i + 1) = i + 1 := by
  unfold wrap64
  omega
theorem wrap_nat (i n : Nat) (h : i < n) (hn : n ≤ 140737488355328) : wrap64 ((i : Int) + 1) = ((i + 1 : Nat) : Int) := by
  rw [wrap_succ (n := n) (by omega) (by omega) hn]
  omega
theorem same_go (a : List S39) (hn : a.length ≤ 140737488355328) (d : Nat) : ∀ (k i : Nat), i + d = a.length → d < k → cruciblelaw0_SameLines.l0 k a a (i : Int) = some true := by
  induction d with
  | zero =>
    intro k i hi hk
    obtain ⟨k, rfl⟩ : ∃ m, k = m + 1 := ⟨k - 1, by omega⟩
    rw [cruciblelaw0_SameLines.l0, if_neg (by omega)]
  | succ d ih =>
    intro k i hi hk
    obtain ⟨k, rfl⟩ : ∃ m, k = m + 1 := ⟨k - 1, by omega⟩
    have hr := ih k (i + 1) (by omega) (by omega)
    rw [cruciblelaw0_SameLines.l0, if_pos (by omega), if_pos (by omega), if_pos (by omega), if_neg (by simp), wrap_nat i a.length (by omega) hn]
    exact hr
theorem same_self (a : List S39) (hn : a.length ≤ 140737488355328) (k : Nat) (hk : a.length < k) : cruciblelaw0_SameLines.f k a a = some true := by
  unfold cruciblelaw0_SameLines.f
  rw [if_pos rfl]
  exact same_go a hn a.length k 0 (by omega) hk

/-! rows -/
theorem split_row (r : List UInt8) (l : List UInt8) (h : (10 : UInt8) ∉ r) : ∀ cur, splitL cur (r ++ 10 :: l) = (cur ++ r) :: splitL [] l := by
  induction r with
  | nil => intro cur; simp [splitL]
  | cons c r ih =>
    intro cur
    have hc : ¬ c = 10 := fun e => h (by simp [e])
    rw [List.cons_append]
    simp only [splitL]
    rw [if_neg hc, ih (fun hm => h (List.mem_cons_of_mem _ hm))]
    simp
theorem split_rows (rs : List ByteArray) (h : NoNl rs) : splitL [] (unrows rs) = rs.map (fun r => r.data.toList) ++ [[]] := by
  induction rs with
  | nil => simp [unrows, splitL]
  | cons r rs ih =>
    rw [unrows_cons, split_row r.data.toList _ (h r (by simp)), ih (fun q hq => h q (by simp [hq]))]
    simp
theorem rows_U (rs : List ByteArray) (h : NoNl rs) : rowsOf (U rs) = rs := by
  unfold rowsOf
  rw [show (U rs).data.toList = unrows rs from rfl, split_rows rs h, List.dropLast_concat, List.map_map]
  conv => rhs; rw [← List.map_id rs]
  rfl
theorem unrows_app (a b : List ByteArray) : unrows (a ++ b) = unrows a ++ unrows b := by
  unfold unrows
  rw [List.flatMap_append]
theorem U_app (a b : List ByteArray) : U a ++ U b = U (a ++ b) := by
  apply ByteArray.ext
  apply Array.toList_inj.1
  rw [ByteArray.data_append, Array.toList_append]
  exact (unrows_app a b).symm
theorem U_end (rs : List ByteArray) : (U rs).size = 0 ∨ Lib.hasSuffix (U rs).data.toList [10] = true := by
  rcases List.eq_nil_or_concat rs with e | ⟨l, r, e⟩
  · left; rw [e, U_size]; rfl
  · right
    rw [e, List.concat_eq_append, show (U (l ++ [r])).data.toList = unrows (l ++ [r]) from rfl, unrows_app]
    unfold Lib.hasSuffix
    rw [List.isSuffixOf_iff_suffix]
    refine ⟨unrows l ++ r.data.toList, ?_⟩
    simp [unrows]
theorem noNl_unrows (rs : List ByteArray) (h : NoNl rs) : noNl (unrows rs) = rs.flatMap fun r => r.data.toList := by
  induction rs with
  | nil => rfl
  | cons r rs ih =>
    rw [unrows_cons, noNl_app, noNl_none _ (fun c hc e => h r (by simp) (e ▸ hc)), List.flatMap_cons, ← ih (fun q hq => h q (by simp [hq]))]
    rfl
def plainRows (rs : List ByteArray) : Bool := rs.all fun r => plainL r.data.toList
theorem plain_flat (rs : List ByteArray) : plainL (rs.flatMap fun r => r.data.toList) = plainRows rs := by
  induction rs with
  | nil => rfl
  | cons r rs ih =>
    unfold plainL plainRows at *
    rw [List.flatMap_cons, List.all_append, ih]
    rfl
theorem may_U (rs : List ByteArray) (h : NoNl rs) : mayB (U rs) = (decide ((U rs).size ≤ 2048) && plainRows rs) := by
  unfold mayB
  have he := U_end rs
  rw [show (U rs).data.toList = unrows rs from rfl, noNl_unrows rs h] at *
  by_cases h48 : (U rs).size ≤ 2048
  · have hz : (noNl (unrows rs)).length ≤ (unrows rs).length := List.length_filter_le _ _
    rw [noNl_unrows rs h, ← U_size] at hz
    have hp : plainB ⟨(rs.flatMap fun r => r.data.toList).toArray⟩ 2048 = plainRows rs := by
      unfold plainB
      rw [show ((⟨(rs.flatMap fun r => r.data.toList).toArray⟩ : ByteArray).data.toList) = rs.flatMap fun r => r.data.toList from rfl, plain_flat]
      have hq : ∀ l : List UInt8, (⟨l.toArray⟩ : ByteArray).size = l.length := fun l => by simp [ByteArray.size]
      rw [decide_eq_true (by rw [hq]; omega), Bool.and_true]
    have h2 : (decide ((U rs).size = 0) || Lib.hasSuffix (unrows rs) [10]) = true := by
      rcases he with e | e
      · rw [decide_eq_true e, Bool.true_or]
      · rw [e, Bool.or_true]
    rw [hp, h2, Bool.and_true]
  · rw [decide_eq_false h48]
    rfl
theorem cut_rows (rs : List ByteArray) (h : NoNl rs) : linesCut (U rs) = if (U rs).size ≤ 2048 ∧ plainRows rs = true then linesGo rs.length rs [] else ([], 600) := by
  unfold linesCut
  rw [may_U rs h, rows_U rs h]
  by_cases h48 : (U rs).size ≤ 2048 <;> by_cases hp : plainRows rs = true <;> simp [h48, hp]
/-- A text that is cut is its rows. -/
theorem cut_ok {s : ByteArray} (h : (linesCut s).2 = 0) : ∃ rs, s = U rs ∧ NoNl rs ∧ s.size ≤ 2048 ∧ plainRows rs = true ∧ linesCut s = linesGo rs.length rs [] := by
  have hm : mayB s = true := by
    unfold linesCut at h
    split at h
    · assumption
    · exact absurd h (by decide)
  have hmm := hm
  unfold mayB at hmm
  simp only [Bool.and_eq_true, Bool.or_eq_true, decide_eq_true_eq] at hmm
  obtain ⟨h48, -, hend⟩ := hmm
  have hU : s = U (rowsOf s) := by unfold U; rw [rows_unrows s hend]
  have hn := rows_noNl s
  refine ⟨rowsOf s, hU, hn, h48, ?_, ?_⟩
  · have := may_U (rowsOf s) hn
    rw [← hU, hm] at this
    rw [Eq.comm, Bool.and_eq_true] at this
    exact this.2
  · unfold linesCut
    rw [if_pos hm]

/-! lines out of rows -/
theorem join_len : ∀ (rs : List ByteArray) (line last : ByteArray) (p : ByteArray × List ByteArray), joinGo line last rs = some p → p.2.length ≤ rs.length := by
  intro rs
  induction rs with
  | nil =>
    intro line last p h
    simp only [joinGo] at h
    split at h
    · exact absurd h (by simp)
    · injection h with h; subst h; simp
  | cons r rs ih =>
    intro line last p h
    simp only [joinGo] at h
    split at h
    · have := ih _ _ p h
      simp; omega
    · injection h with h; subst h; simp
theorem join_app (t : List ByteArray) : ∀ (rs : List ByteArray) (line last l : ByteArray) (qs : List ByteArray), joinGo line last rs = some (l, qs) → joinGo line last (rs ++ t) = some (l, qs ++ t) := by
  intro rs
  induction rs with
  | nil =>
    intro line last l qs h
    simp only [joinGo] at h
    split at h
    · exact absurd h (by simp)
    · rename_i ho
      injection h with h
      injection h with h1 h2
      subst h1 h2
      rw [List.nil_append]
      exact joinGo_off _ (by simpa using ho)
  | cons r rs ih =>
    intro line last l qs h
    simp only [joinGo] at h
    split at h
    · rename_i ho
      rw [List.cons_append, joinGo_on r (rs ++ t) ho]
      exact ih _ _ _ _ h
    · rename_i ho
      injection h with h
      injection h with h1 h2
      subst h1 h2
      exact joinGo_off _ (by simpa using ho)
theorem go_fuel : ∀ (k : Nat) (rs : List ByteArray) (out : List S39) (m : Nat), rs.length ≤ k → rs.length ≤ m → linesGo k rs out = linesGo m rs out := by
  intro k
  induction k with
  | zero =>
    intro rs out m h _
    obtain rfl : rs = [] := List.length_eq_zero_iff.1 (by omega)
    rw [linesGo_nil, linesGo_nil]
  | succ k ih =>
    intro rs out m h hm
    cases rs with
    | nil => rw [linesGo_nil, linesGo_nil]
    | cons r rs =>
      obtain ⟨m, rfl⟩ : ∃ q, m = q + 1 := ⟨m - 1, by simp at hm; omega⟩
      rw [linesGo_cons, linesGo_cons]
      cases hj : joinGo r r rs with
      | none => rfl
      | some p =>
        have := join_len rs r r p hj
        simp at h hm
        exact ih p.2 (addLine out p.1) m (by omega) (by omega)
theorem go_app (t : List ByteArray) (m : Nat) (ht : t.length ≤ m) : ∀ (k : Nat) (rs : List ByteArray) (out : List S39), rs.length ≤ k → (linesGo k rs out).2 = 0 → linesGo (k + m) (rs ++ t) out = linesGo m t (linesGo k rs out).1 := by
  intro k
  induction k with
  | zero =>
    intro rs out h hz
    obtain rfl : rs = [] := List.length_eq_zero_iff.1 (by omega)
    rw [List.nil_append, Nat.zero_add]
    rfl
  | succ k ih =>
    intro rs out h hz
    cases rs with
    | nil =>
      rw [List.nil_append, linesGo_nil]
      exact go_fuel _ t out m (by omega) ht
    | cons r rs =>
      rw [linesGo_cons] at hz
      rw [List.cons_append, show k + 1 + m = (k + m) + 1 by omega, linesGo_cons, linesGo_cons]
      cases hj : joinGo r r rs with
      | none =>
        rw [hj] at hz
        exact absurd (show (600 : Int) = 0 from hz) (by decide)
      | some p =>
        rw [hj] at hz
        have hl := join_len rs r r p hj
        rw [join_app t rs r r p.1 p.2 hj]
        exact ih p.2 (addLine out p.1) (by simp at h; omega) hz
theorem addLine_app (out : List S39) (line : ByteArray) : addLine out line = out ++ addLine [] line := by
  unfold addLine
  split <;> simp
theorem go_out : ∀ (k : Nat) (rs : List ByteArray) (out : List S39), linesGo k rs out = if (linesGo k rs []).2 = 0 then (out ++ (linesGo k rs []).1, 0) else ([], 600) := by
  intro k
  induction k with
  | zero => intro rs out; simp [linesGo]
  | succ k ih =>
    intro rs out
    cases rs with
    | nil => simp [linesGo]
    | cons r rs =>
      rw [linesGo_cons, linesGo_cons]
      cases hj : joinGo r r rs with
      | none => simp [after]
      | some p =>
        show linesGo k p.2 (addLine out p.1) = if (linesGo k p.2 (addLine [] p.1)).2 = 0 then (out ++ (linesGo k p.2 (addLine [] p.1)).1, 0) else ([], 600)
        rw [ih p.2 (addLine out p.1), ih p.2 (addLine [] p.1), addLine_app out]
        split
        · simp
        · simp
theorem go_len : ∀ (k : Nat) (rs : List ByteArray) (out : List S39), (linesGo k rs out).1.length ≤ out.length + k := by
  intro k
  induction k with
  | zero => intro rs out; simp [linesGo]
  | succ k ih =>
    intro rs out
    cases rs with
    | nil => rw [linesGo_nil]; show out.length ≤ _; omega
    | cons r rs =>
      rw [linesGo_cons]
      cases hj : joinGo r r rs with
      | none => simp [after]
      | some p =>
        have := ih p.2 (addLine out p.1)
        have h2 : (addLine out p.1).length ≤ out.length + 1 := by unfold addLine; split <;> simp
        show (linesGo k p.2 (addLine out p.1)).1.length ≤ _
        omega
end Go.Proofs.YtbkgcdjbkoeejaaDoor.Print
