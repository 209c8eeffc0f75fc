/- strings.Cut at "\n"; lines.on; lines.may. -/
import Derived.Test.YtbkgcdjbkoeejaaDoorHReplace
import Derived.BigQuiet
import Derived.IntWalk
namespace Go.Proofs.YtbkgcdjbkoeejaaDoor.Print
open Go.RowKit Go.Lib Go.Shelf Go.Proofs.YtbkgcdjbkoeejaaDoorW.PrintWords Go.Proofs.YtbkgcdjbkoeejaaDoorW.PrintLast Go.Proofs.YtbkgcdjbkoeejaaDoorW.PrintMore
set_option linter.unusedVariables false

def cutAt (s : ByteArray) : Int := Lib.indexByte s.data.toList 10
def cutStep (s : ByteArray) : ByteArray × ByteArray × Bool := if 0 ≤ cutAt s then (s.extract 0 (cutAt s).toNat, s.extract ((cutAt s).toNat + 1) s.size, true) else (s, ⟨#[]⟩, false)
theorem cutAt_lt (s : ByteArray) (h : 0 ≤ cutAt s) : ∃ i : Nat, cutAt s = i ∧ i < s.size := by
  obtain ⟨i, hi⟩ := Int.eq_ofNat_of_zero_le h
  refine ⟨i, hi, ?_⟩
  have := (Lib.indexByte_some (show Lib.indexByte s.data.toList 10 = (i : Nat) from hi)).1
  rw [Lib.size_eq]
  exact (List.getElem?_eq_some_iff.mp this).1

set_option maxHeartbeats 1000000 in
set_option maxRecDepth 100000 in
theorem cutB_calls (s : ByteArray) (hs : s.size ≤ 9223372036854775807) (w : World) :
    Calls Tryd.prog 27 #[.string s, .string ⟨#[10]⟩] w fun e w' => e = .returned (.tuple #[.string (cutStep s).1, .string (cutStep s).2.1, .bool (cutStep s).2.2]) ∧ ∃ n, w' = w.drewN n := by
  by_cases h : 0 ≤ cutAt s
  · obtain ⟨i, hi, hlt⟩ := cutAt_lt s h
    have hd : Hid (cutStep s = (s.extract 0 i, s.extract (i + 1) s.size, true)) := by
      unfold cutStep
      rw [if_pos h, hi]
      exact Lib.hid rfl
    have HI : Hid (Lib.indexByte s.data.toList 10 = (i : Int)) := Lib.hid hi
    clear h hi
    have h0 : (0 : Int) ≤ i := by omega
    have h1 : (i : Int) ≤ s.size := by omega
    have h2 : (0 : Int) ≤ (i : Int) + 1 := by omega
    have h3 : (i : Int) + 1 ≤ s.size := by omega
    have h4 : IntKind.i64.wrap ((i : Int) + 1) = (i : Int) + 1 := IntWalk.i64_in _ (by omega)
    have h5 : ((i : Int) + 1).toNat = i + 1 := by omega
    go_enter Tryd.func27, Tryd.ntmps27
    go_wp2_with fail
    refine (Tryd.stringslite_Index_one s 10 _).mono ?_
    rintro e w' ⟨rfl, rfl⟩
    rw [HI.out]
    go_wp2_with fail
    go_quiet (fail)
    go_wp2_with fail
    refine bodyPost_ret (v := .tuple #[.string (s.extract 0 i), .string (s.extract (i + 1) s.size), .bool true]) (by simp [results, Tryd.results27, go_sem]) rfl ?_
    rw [hd.out]
    exact ⟨rfl, _, rfl⟩
  · have hd : Hid (cutStep s = (s, ⟨#[]⟩, false)) := by
      unfold cutStep
      rw [if_neg h]
      exact Lib.hid rfl
    have HI : Hid (Lib.indexByte s.data.toList 10 = -1) := Lib.hid (by have := Lib.indexByte_ge s.data.toList 10; unfold cutAt at h; omega)
    clear h
    go_enter Tryd.func27, Tryd.ntmps27
    go_wp2_with fail
    refine (Tryd.stringslite_Index_one s 10 _).mono ?_
    rintro e w' ⟨rfl, rfl⟩
    rw [HI.out]
    go_wp2_with fail
    refine bodyPost_ret (v := .tuple #[.string s, .string ⟨#[]⟩, .bool false]) (by simp [results, Tryd.results27, go_sem]) rfl ?_
    rw [hd.out]
    exact ⟨rfl, 0, rfl⟩

set_option maxHeartbeats 1000000 in
theorem cut_calls (s : ByteArray) (hs : s.size ≤ 9223372036854775807) (w : World) :
    Calls Tryd.prog 15 #[.string s, .string ⟨#[10]⟩] w fun e w' => e = .returned (.tuple #[.string (cutStep s).1, .string (cutStep s).2.1, .bool (cutStep s).2.2]) ∧ ∃ n, w' = w.drewN n := by
  obtain ⟨⟨t1, t2, t3⟩, ht⟩ : ∃ t, cutStep s = t := ⟨_, rfl⟩
  have HT := Lib.hid ht
  clear ht
  go_enter Tryd.func15, Tryd.ntmps15
  go_wp2_with fail
  refine (cutB_calls s hs _).mono ?_
  rw [HT.out]
  rintro e w' ⟨rfl, n, rfl⟩
  go_wp2_with fail
  refine bodyPost_ret (v := .tuple #[.string t1, .string t2, .bool t3]) (by simp [results, Tryd.results15, go_sem]) rfl ?_
  rw [HT.out]
  exact ⟨rfl, _, rfl⟩

/-! on: does a line go on? -/
def tailN (l : List UInt8) : Nat := (l.reverse.takeWhile fun c => c == 36).length
def onB (s : ByteArray) : Bool := tailN s.data.toList % 2 == 1
theorem tail_trim (l : List UInt8) : (Lib.trimRightB l 36).length + tailN l = l.length := by
  unfold Lib.trimRightB tailN
  rw [List.length_reverse]
  have := congrArg List.length (List.takeWhile_append_dropWhile (p := fun c : UInt8 => c == 36) (l := l.reverse))
  rw [List.length_append, List.length_reverse] at this
  omega
set_option maxHeartbeats 1000000 in
theorem on_calls (s : ByteArray) (hs : s.size ≤ 9223372036854775807) (w : World) :
    Calls Tryd.prog 16 #[.string s] w fun e w' => e = .returned (.bool (onB s)) ∧ w = w' := by
  have ht := tail_trim s.data.toList
  have hl : s.data.toList.length = s.size := (Lib.size_eq s).symm
  obtain ⟨T, hT⟩ : ∃ T : ByteArray, ⟨(Lib.trimRightB s.data.toList 36).toArray⟩ = T := ⟨_, rfl⟩
  have hz : T.size = (Lib.trimRightB s.data.toList 36).length := by rw [← hT]; simp [ByteArray.size]
  have h1 : T.size + tailN s.data.toList = s.size := by omega
  have HD : Hid (onB s = (tailN s.data.toList % 2 == 1)) := rfl
  obtain ⟨n, hn⟩ : ∃ n, tailN s.data.toList = n := ⟨_, rfl⟩
  rw [hn] at h1 HD
  have HT := Lib.hid hT
  clear hT hz ht hl hn
  have e1 : (s.size : Int) - (T.size : Int) = (n : Int) := by omega
  have HE := Lib.hid e1
  clear e1
  have hb1 : T.size ≤ s.size := by omega
  go_enter Tryd.func16, Tryd.ntmps16
  go_wp2_with fail
  refine (Tryd.strings_TrimRight_one s 36 (by decide) _ hs).mono ?_
  rw [HT.out]
  rintro e w' ⟨rfl, hw⟩
  rw [hw]
  clear hw
  go_wp2_with fail
  go_ret
  exact ⟨ret_bool (by rw [HE.out, HD.out, Bool.eq_iff_iff]; simp; omega), rfl⟩

/-! may: may a text be cut? -/
def mayB (s : ByteArray) : Bool := decide (s.size ≤ 2048) && (plainB ⟨(noNl s.data.toList).toArray⟩ 2048 && (decide (s.size = 0) || Lib.hasSuffix s.data.toList [10]))
set_option maxHeartbeats 1000000 in
theorem may_calls (s : ByteArray) (hs : s.size ≤ 9223372036854775807) (w : World) :
    Calls Tryd.prog 14 #[.string s] w fun e w' => e = .returned (.bool (mayB s)) ∧ Below w.heap.size w w' := by
  have HD : Hid (mayB s = (decide (s.size ≤ 2048) && (plainB ⟨(noNl s.data.toList).toArray⟩ 2048 && (decide (s.size = 0) || Lib.hasSuffix s.data.toList [10])))) := rfl
  by_cases h48 : s.size ≤ 2048
  · obtain ⟨T, hT⟩ : ∃ T : ByteArray, ⟨(noNl s.data.toList).toArray⟩ = T := ⟨_, rfl⟩
    obtain ⟨P, hP⟩ : ∃ P, plainB T 2048 = P := ⟨_, rfl⟩
    obtain ⟨S, hS⟩ : ∃ S, Lib.hasSuffix s.data.toList [10] = S := ⟨_, rfl⟩
    have hTz : T.size ≤ 2048 := by
      rw [← hT]
      have : (noNl s.data.toList).length ≤ s.data.toList.length := List.length_filter_le _ _
      have e := Lib.size_eq s
      simp [ByteArray.size]
      omega
    rw [hT, hP, hS] at HD
    have HT := Lib.hid hT
    have HP := Lib.hid hP
    have HS := Lib.hid hS
    clear hT hP hS
    go_enter Tryd.func14, Tryd.ntmps14
    go_wp2_with fail
    refine (replaceAll_calls s (by omega) _).mono ?_
    rw [HT.out]
    rintro e w1 ⟨rfl, hb1⟩
    have HB1 := Aside0.mk hb1
    clear hb1
    go_wp2_with fail
    refine (plain_calls T 2048 _ (by omega)).mono ?_
    rw [HP.out]
    rintro e w2 ⟨rfl, rfl⟩
    cases P
    · go_wp2_with fail
      go_ret
      exact ⟨ret_bool (by rw [HD.out]; simp), HB1.out⟩
    · by_cases h0 : s.size = 0
      · have hn : s.toList = [] := size_nil (by omega)
        go_wp2_with fail
        go_ret
        exact ⟨ret_bool (by rw [HD.out]; simp [h0]), HB1.out⟩
      · have hn : (s.toList == []) = false := beq_eq_false_iff_ne.2 (size_some (by omega))
        go_wp2_with fail
        refine (Tryd.strings_HasSuffix s ⟨#[10]⟩ _ hs).mono ?_
        rw [show (⟨#[10]⟩ : ByteArray).data.toList = [10] from rfl, HS.out]
        rintro e w3 ⟨rfl, hw⟩
        rw [hw]
        clear hw
        go_wp2_with fail
        go_ret
        exact ⟨ret_bool (by rw [HD.out]; simp [h0, h48]), HB1.out⟩
  · go_enter Tryd.func14, Tryd.ntmps14
    go_wp2_with fail
    go_ret
    exact ⟨ret_bool (by rw [HD.out]; simp [h48]), Below.refl _ _⟩
end Go.Proofs.YtbkgcdjbkoeejaaDoor.Print
