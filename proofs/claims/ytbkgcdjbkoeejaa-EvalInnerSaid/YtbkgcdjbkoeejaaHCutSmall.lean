import Derived.Test.YtbkgcdjbkoeejaaHCutter
import Derived.BigQuiet
import Derived.IntWalk
/- strings.Cut at the one byte $. -/
namespace Go.Proofs.Ytbkgcdjbkoeejaa.Print
open Go.RowKit Go.Lib Go.Shelf Go.Proofs.YtbkgcdjbkoeejaaW.PrintWords Go.Proofs.YtbkgcdjbkoeejaaW.PrintLast Go.Proofs.YtbkgcdjbkoeejaaW.PrintMore
set_option linter.unusedVariables false

def cutAt (s : ByteArray) : Int := Lib.indexByte s.data.toList 36
def cutStep (s : ByteArray) : ByteArray × ByteArray × Bool := if 0 ≤ cutAt s then (s.extract 0 (cutAt s).toNat, s.extract ((cutAt s).toNat + 1) s.size, true) else (s, ⟨#[]⟩, false)
theorem cutAt_lt (s : ByteArray) (h : 0 ≤ cutAt s) : ∃ i : Nat, cutAt s = i ∧ i < s.size := by
  obtain ⟨i, hi⟩ := Int.eq_ofNat_of_zero_le h
  refine ⟨i, hi, ?_⟩
  have := (Lib.indexByte_some (show Lib.indexByte s.data.toList 36 = (i : Nat) from hi)).1
  rw [Lib.size_eq]
  exact (List.getElem?_eq_some_iff.mp this).1

set_option maxHeartbeats 1000000 in
set_option maxRecDepth 100000 in
theorem cut59_calls (s : ByteArray) (hs : s.size ≤ 9223372036854775807) (w : World) :
    Calls Try.prog 39 #[.string s, .string ⟨#[36]⟩] w fun e w' => e = .returned (.tuple #[.string (cutStep s).1, .string (cutStep s).2.1, .bool (cutStep s).2.2]) ∧ ∃ n, w' = w.drewN n := by
  by_cases h : 0 ≤ cutAt s
  · obtain ⟨i, hi, hlt⟩ := cutAt_lt s h
    have hd : Hid (cutStep s = (s.extract 0 i, s.extract (i + 1) s.size, true)) := by
      unfold cutStep
      rw [if_pos h, hi]
      exact Lib.hid rfl
    have HI : Hid (Lib.indexByte s.data.toList 36 = (i : Int)) := Lib.hid hi
    clear h hi
    have h0 : (0 : Int) ≤ i := by omega
    have h1 : (i : Int) ≤ s.size := by omega
    have h2 : (0 : Int) ≤ (i : Int) + 1 := by omega
    have h3 : (i : Int) + 1 ≤ s.size := by omega
    have h4 : IntKind.i64.wrap ((i : Int) + 1) = (i : Int) + 1 := IntWalk.i64_in _ (by omega)
    have h5 : ((i : Int) + 1).toNat = i + 1 := by omega
    go_enter Try.func39, Try.ntmps39
    go_wp2_with fail
    refine (Try.stringslite_Index_one s 36 _).mono ?_
    rintro e w' ⟨rfl, rfl⟩
    rw [HI.out]
    go_wp2_with fail
    go_quiet (fail)
    go_wp2_with fail
    refine bodyPost_ret (v := .tuple #[.string (s.extract 0 i), .string (s.extract (i + 1) s.size), .bool true]) (by simp [results, Try.results39, go_sem]) rfl ?_
    rw [hd.out]
    exact ⟨rfl, _, rfl⟩
  · have hd : Hid (cutStep s = (s, ⟨#[]⟩, false)) := by
      unfold cutStep
      rw [if_neg h]
      exact Lib.hid rfl
    have HI : Hid (Lib.indexByte s.data.toList 36 = -1) := Lib.hid (by have := Lib.indexByte_ge s.data.toList 36; unfold cutAt at h; omega)
    clear h
    go_enter Try.func39, Try.ntmps39
    go_wp2_with fail
    refine (Try.stringslite_Index_one s 36 _).mono ?_
    rintro e w' ⟨rfl, rfl⟩
    rw [HI.out]
    go_wp2_with fail
    refine bodyPost_ret (v := .tuple #[.string s, .string ⟨#[]⟩, .bool false]) (by simp [results, Try.results39, go_sem]) rfl ?_
    rw [hd.out]
    exact ⟨rfl, 0, rfl⟩

set_option maxHeartbeats 1000000 in
theorem cut49_calls (s : ByteArray) (hs : s.size ≤ 9223372036854775807) (w : World) :
    Calls Try.prog 30 #[.string s, .string ⟨#[36]⟩] w fun e w' => e = .returned (.tuple #[.string (cutStep s).1, .string (cutStep s).2.1, .bool (cutStep s).2.2]) ∧ ∃ n, w' = w.drewN n := by
  obtain ⟨⟨t1, t2, t3⟩, ht⟩ : ∃ t, cutStep s = t := ⟨_, rfl⟩
  have HT := Lib.hid ht
  clear ht
  go_enter Try.func30, Try.ntmps30
  go_wp2_with fail
  refine (cut59_calls s hs _).mono ?_
  rw [HT.out]
  rintro e w' ⟨rfl, n, rfl⟩
  go_wp2_with fail
  refine bodyPost_ret (v := .tuple #[.string t1, .string t2, .bool t3]) (by simp [results, Try.results30, go_sem]) rfl ?_
  rw [HT.out]
  exact ⟨rfl, _, rfl⟩
end Go.Proofs.Ytbkgcdjbkoeejaa.Print

/- The rounds of pieces.Cut, plain. -/
namespace Go.Proofs.Ytbkgcdjbkoeejaa.Print
open Go.RowKit Go.Lib Go.Shelf Go.Proofs.YtbkgcdjbkoeejaaW.PrintWords Go.Proofs.YtbkgcdjbkoeejaaW.PrintLast Go.Proofs.YtbkgcdjbkoeejaaW.PrintMore

def textIf (out : List S49) (t : ByteArray) : List S49 := if 1 ≤ t.size then addText out t else out
def cutRound (rest : ByteArray) (out : List S49) : ByteArray × List S49 × Bool :=
  if (cutStep rest).2.2 = true then signStep (cutStep rest).2.1 (textIf out (cutStep rest).1) else ((cutStep rest).2.1, textIf out (cutStep rest).1, false)
def cutGo : Nat → ByteArray → List S49 → Bool → List S49 × Bool
  | 0, _, out, bad => (out, bad)
  | k + 1, rest, out, bad => if 1 ≤ rest.size ∧ bad = false then cutGo k (cutRound rest out).1 (cutRound rest out).2.1 (cutRound rest out).2.2 else (out, bad)

/-- Pieces so few and so short that they, and what is still to cut, are at most N. -/
def Few (N m : Nat) (out : List S49) : Prop := out.length + m ≤ N ∧ ∀ x ∈ out, x.f1.size + m ≤ N

theorem trimP_le (s e : ByteArray) : (trimP s e).size ≤ s.size := by
  unfold trimP
  rw [Lib.size_eq, Lib.size_eq]
  simp only [Lib.trimPrefix]
  split
  · simp
  · simp
theorem few_le {N m m' : Nat} {out : List S49} (h : Few N m out) (hm : m' ≤ m) : Few N m' out :=
  ⟨by have := h.1; omega, fun x hx => by have := h.2 x hx; omega⟩
theorem rd57_mem (out : List S49) (i : Nat) (hi : i < out.length) : rd_T49 out (i : Int) ∈ out := by
  have : rd_T49 out (i : Int) = out[i] := by simp [rd_T49, hi]
  rw [this]
  exact List.getElem_mem hi
theorem few_last {N m : Nat} {out : List S49} (h : Few N m out) (h0 : 0 < out.length) : (rd_T49 out ((out.length - 1 : Nat) : Int)).f1.size + m ≤ N := h.2 _ (rd57_mem out _ (by omega))
theorem few_text {N m m' : Nat} {out : List S49} (t : ByteArray) (h : Few N m out) (ht : 1 ≤ t.size) (hm : t.size + m' ≤ m) : Few N m' (addText out t) := by
  have h1 := h.1
  unfold addText
  split
  · rename_i hc
    refine ⟨by rw [List.length_set]; omega, fun x hx => ?_⟩
    rcases List.mem_or_eq_of_mem_set hx with hx | rfl
    · have := h.2 x hx; omega
    · have := few_last h hc.1
      simp only [ByteArray.size_append]
      omega
  · refine ⟨by simp; omega, fun x hx => ?_⟩
    rcases List.mem_append.mp hx with hx | hx
    · have := h.2 x hx; omega
    · simp at hx
      subst hx
      simp only []
      omega
theorem few_textIf {N m m' : Nat} {out : List S49} (t : ByteArray) (h : Few N m out) (hm : t.size + m' ≤ m) : Few N m' (textIf out t) := by
  unfold textIf
  split
  · rename_i ht
    exact few_text t h ht hm
  · exact few_le h (by omega)
theorem few_var {N : Nat} {out : List S49} (rest e : ByteArray) (h : Few N rest.size out) : Few N (varStep rest out e).1.size (varStep rest out e).2.1 ∧ (varStep rest out e).1.size ≤ rest.size := by
  have hv := varLen_le rest
  have hw : (wordOf rest).size = varLen rest := by simp [wordOf]; omega
  have hr : (restOf rest).size = rest.size - varLen rest := by simp [restOf]
  have ht := trimP_le (restOf rest) e
  unfold varStep
  split
  · rename_i hc
    simp only [Bool.and_eq_true, decide_eq_true_eq] at hc
    refine ⟨⟨?_, fun x hx => ?_⟩, by simp only []; omega⟩
    · have := h.1
      simp only [List.length_append, List.length_singleton]
      omega
    · rcases List.mem_append.mp hx with hx | hx
      · have := h.2 x hx
        simp only []
        omega
      · simp at hx
        subst hx
        have := h.1
        simp only []
        omega
  · exact ⟨few_le h (by simp only []; omega), by simp only []; omega⟩
theorem few_sign {N : Nat} {out : List S49} (rest : ByteArray) (h : Few N rest.size out) : Few N (signStep rest out).1.size (signStep rest out).2.1 ∧ (signStep rest out).1.size ≤ rest.size := by
  unfold signStep
  split
  · rename_i h1
    have e1 : (rest.extract 1 rest.size).size = rest.size - 1 := by simp
    have e0 : (rest.extract 0 1).size = 1 := by simp; omega
    split
    · exact ⟨few_text _ h (by omega) (by simp only []; omega), by simp only []; omega⟩
    · split
      · have := few_var (rest.extract 1 rest.size) ⟨#[125]⟩ (few_le h (by omega))
        exact ⟨this.1, by omega⟩
      · exact few_var rest _ h
  · exact few_var rest _ h
theorem cutStep_size (s : ByteArray) : (cutStep s).1.size + (cutStep s).2.1.size ≤ s.size ∧ (1 ≤ s.size → (cutStep s).2.1.size < s.size) := by
  unfold cutStep
  split
  · rename_i h
    obtain ⟨i, hi, hlt⟩ := cutAt_lt s h
    rw [hi]
    have e1 : (s.extract 0 i).size = i := by simp; omega
    have e2 : (s.extract (i + 1) s.size).size = s.size - (i + 1) := by simp
    simp only [Int.toNat_natCast, e1, e2]
    omega
  · have e : (⟨#[]⟩ : ByteArray).size = 0 := rfl
    simp only [e]
    omega
theorem few_mid {N : Nat} {out : List S49} (rest : ByteArray) (h : Few N rest.size out) : Few N (cutStep rest).2.1.size (textIf out (cutStep rest).1) :=
  few_textIf _ h (cutStep_size rest).1
theorem few_round {N : Nat} {out : List S49} (rest : ByteArray) (h : Few N rest.size out) : Few N (cutRound rest out).1.size (cutRound rest out).2.1 ∧ (cutRound rest out).1.size ≤ (cutStep rest).2.1.size := by
  unfold cutRound
  split
  · exact few_sign _ (few_mid rest h)
  · exact ⟨few_mid rest h, Nat.le_refl _⟩

/-- What pieces.Cut answers. -/
def cutOf (s : ByteArray) : List S49 × Int :=
  if plainB s 2048 = true then (if (cutGo s.size s [] false).2 = true then ([], 300) else ((cutGo s.size s [] false).1, 0)) else ([], 300)
end Go.Proofs.Ytbkgcdjbkoeejaa.Print
