/- YtefheailchihaaaGreatDoorSf7: out of this seat's texts (wip/tools/shake.py), what is needed alone. -/
import Derived.BigQuiet
import Derived.IntWalk
import Derived.Test.YtefheailchihaaaGreatDoorSf6
section
namespace Go.Proofs.YtefheailchihaaaGreatDoor.Print
open Go.RowKit Go.Lib Go.Shelf Go.Proofs.YtefheailchihaaaGreatDoorW.PrintWords Go.Proofs.YtefheailchihaaaGreatDoorW.PrintLast Go.Proofs.YtefheailchihaaaGreatDoorW.PrintMore
set_option linter.unusedVariables false

def cutAtD (s : ByteArray) : Int := Lib.indexByte s.data.toList 10
def cutStepD (s : ByteArray) : ByteArray × ByteArray × Bool := if 0 ≤ cutAtD s then (s.extract 0 (cutAtD s).toNat, s.extract ((cutAtD s).toNat + 1) s.size, true) else (s, ⟨#[]⟩, false)
theorem cutAt_ltD (s : ByteArray) (h : 0 ≤ cutAtD s) : ∃ i : Nat, cutAtD s = i ∧ i < s.size := by
  obtain ⟨i, hi⟩ := Int.eq_ofNat_of_zero_le h
  refine ⟨i, hi, ?_⟩
  have := (Lib.indexByte_some (show Lib.indexByte s.data.toList 10 = (i : Nat) from hi)).1
  rw [Lib.size_eq]
  exact (List.getElem?_eq_some_iff.mp this).1

set_option maxHeartbeats 1000000 in
set_option maxRecDepth 100000 in
theorem cutB_calls (s : ByteArray) (hs : s.size ≤ 9223372036854775807) (w : World) :
    Calls Tryz.prog 67 #[.string s, .string ⟨#[10]⟩] w fun e w' => e = .returned (.tuple #[.string (cutStepD s).1, .string (cutStepD s).2.1, .bool (cutStepD s).2.2]) ∧ ∃ n, w' = w.drewN n := by
  by_cases h : 0 ≤ cutAtD s
  · obtain ⟨i, hi, hlt⟩ := cutAt_ltD s h
    have hd : Hid (cutStepD s = (s.extract 0 i, s.extract (i + 1) s.size, true)) := by
      unfold cutStepD
      rw [if_pos h, hi]
      exact Lib.hid rfl
    have HI : Hid (Lib.indexByte s.data.toList 10 = (i : Int)) := Lib.hid hi
    clear h hi
    have h0 : (0 : Int) ≤ i := by omega
    have h1 : (i : Int) ≤ s.size := by omega
    have h2 : (0 : Int) ≤ (i : Int) + 1 := by omega
    have h3 : (i : Int) + 1 ≤ s.size := by omega
    have h4 : IntKind.i64.wrap ((i : Int) + 1) = (i : Int) + 1 := IntWalk.i64_in _ (by omega)
    have h5 : ((i : Int) + 1).toNat = i + 1 := by omega
    go_enter Tryz.func67, Tryz.ntmps67
    go_wp2_with fail
    refine (Tryz.stringslite_Index_one s 10 _).mono ?_
    rintro e w' ⟨rfl, rfl⟩
    rw [HI.out]
    go_wp2_with fail
    go_quiet (fail)
    go_wp2_with fail
    refine bodyPost_ret (v := .tuple #[.string (s.extract 0 i), .string (s.extract (i + 1) s.size), .bool true]) (by simp [results, Tryz.results67, go_sem]) rfl ?_
    rw [hd.out]
    exact ⟨rfl, _, rfl⟩
  · have hd : Hid (cutStepD s = (s, ⟨#[]⟩, false)) := by
      unfold cutStepD
      rw [if_neg h]
      exact Lib.hid rfl
    have HI : Hid (Lib.indexByte s.data.toList 10 = -1) := Lib.hid (by have := Lib.indexByte_ge s.data.toList 10; unfold cutAtD at h; omega)
    clear h
    go_enter Tryz.func67, Tryz.ntmps67
    go_wp2_with fail
    refine (Tryz.stringslite_Index_one s 10 _).mono ?_
    rintro e w' ⟨rfl, rfl⟩
    rw [HI.out]
    go_wp2_with fail
    refine bodyPost_ret (v := .tuple #[.string s, .string ⟨#[]⟩, .bool false]) (by simp [results, Tryz.results67, go_sem]) rfl ?_
    rw [hd.out]
    exact ⟨rfl, 0, rfl⟩

set_option maxHeartbeats 1000000 in
theorem cut_calls (s : ByteArray) (hs : s.size ≤ 9223372036854775807) (w : World) :
    Calls Tryz.prog 36 #[.string s, .string ⟨#[10]⟩] w fun e w' => e = .returned (.tuple #[.string (cutStepD s).1, .string (cutStepD s).2.1, .bool (cutStepD s).2.2]) ∧ ∃ n, w' = w.drewN n := by
  obtain ⟨⟨t1, t2, t3⟩, ht⟩ : ∃ t, cutStepD s = t := ⟨_, rfl⟩
  have HT := Lib.hid ht
  clear ht
  go_enter Tryz.func36, Tryz.ntmps36
  go_wp2_with fail
  refine (cutB_calls s hs _).mono ?_
  rw [HT.out]
  rintro e w' ⟨rfl, n, rfl⟩
  go_wp2_with fail
  refine bodyPost_ret (v := .tuple #[.string t1, .string t2, .bool t3]) (by simp [results, Tryz.results36, go_sem]) rfl ?_
  rw [HT.out]
  exact ⟨rfl, _, rfl⟩

def tailN (l : List UInt8) : Nat := (l.reverse.takeWhile fun c => c == 36).length
def onB (s : ByteArray) : Bool := tailN s.data.toList % 2 == 1
theorem tail_trim (l : List UInt8) : (Lib.trimRightB l 36).length + tailN l = l.length := by
  unfold Lib.trimRightB tailN
  rw [List.length_reverse]
  have := congrArg List.length (List.takeWhile_append_dropWhile (p := fun c : UInt8 => c == 36) (l := l.reverse))
  rw [List.length_append, List.length_reverse] at this
  omega
set_option maxHeartbeats 1000000 in
theorem on_calls (s : ByteArray) (hs : s.size ≤ 9223372036854775807) (w : World) :
    Calls Tryz.prog 37 #[.string s] w fun e w' => e = .returned (.bool (onB s)) ∧ w = w' := by
  have ht := tail_trim s.data.toList
  have hl : s.data.toList.length = s.size := (Lib.size_eq s).symm
  obtain ⟨T, hT⟩ : ∃ T : ByteArray, ⟨(Lib.trimRightB s.data.toList 36).toArray⟩ = T := ⟨_, rfl⟩
  have hz : T.size = (Lib.trimRightB s.data.toList 36).length := by rw [← hT]; simp [ByteArray.size]
  have h1 : T.size + tailN s.data.toList = s.size := by omega
  have HD : Hid (onB s = (tailN s.data.toList % 2 == 1)) := rfl
  obtain ⟨n, hn⟩ : ∃ n, tailN s.data.toList = n := ⟨_, rfl⟩
  rw [hn] at h1 HD
  have HT := Lib.hid hT
  clear hT hz ht hl hn
  have e1 : (s.size : Int) - (T.size : Int) = (n : Int) := by omega
  have HE := Lib.hid e1
  clear e1
  have hb1 : T.size ≤ s.size := by omega
  go_enter Tryz.func37, Tryz.ntmps37
  go_wp2_with fail
  refine (Tryz.strings_TrimRight_one s 36 (by decide) _ hs).mono ?_
  rw [HT.out]
  rintro e w' ⟨rfl, hw⟩
  rw [hw]
  clear hw
  go_wp2_with fail
  go_ret
  exact ⟨ret_bool (by rw [HE.out, HD.out, Bool.eq_iff_iff]; simp; omega), rfl⟩

def mayB (s : ByteArray) : Bool := decide (s.size ≤ 2048) && (plainB ⟨(noNl s.data.toList).toArray⟩ 2048 && (decide (s.size = 0) || Lib.hasSuffix s.data.toList [10]))
set_option maxHeartbeats 1000000 in
theorem linesMay_calls (s : ByteArray) (hs : s.size ≤ 9223372036854775807) (w : World) :
    Calls Tryz.prog 35 #[.string s] w fun e w' => e = .returned (.bool (mayB s)) ∧ Below w.heap.size w w' := by
  have HD : Hid (mayB s = (decide (s.size ≤ 2048) && (plainB ⟨(noNl s.data.toList).toArray⟩ 2048 && (decide (s.size = 0) || Lib.hasSuffix s.data.toList [10])))) := rfl
  by_cases h48 : s.size ≤ 2048
  · obtain ⟨T, hT⟩ : ∃ T : ByteArray, ⟨(noNl s.data.toList).toArray⟩ = T := ⟨_, rfl⟩
    obtain ⟨P, hP⟩ : ∃ P, plainB T 2048 = P := ⟨_, rfl⟩
    obtain ⟨S, hS⟩ : ∃ S, Lib.hasSuffix s.data.toList [10] = S := ⟨_, rfl⟩
    have hTz : T.size ≤ 2048 := by
      rw [← hT]
      have : (noNl s.data.toList).length ≤ s.data.toList.length := List.length_filter_le _ _
      have e := Lib.size_eq s
      simp [ByteArray.size]
      omega
    rw [hT, hP, hS] at HD
    have HT := Lib.hid hT
    have HP := Lib.hid hP
    have HS := Lib.hid hS
    clear hT hP hS
    go_enter Tryz.func35, Tryz.ntmps35
    go_wp2_with fail
    refine (replaceAll_calls s (by omega) _).mono ?_
    rw [HT.out]
    rintro e w1 ⟨rfl, hb1⟩
    have HB1 := Aside0.mk hb1
    clear hb1
    go_wp2_with fail
    refine (plain_calls T 2048 _ (by omega)).mono ?_
    rw [HP.out]
    rintro e w2 ⟨rfl, rfl⟩
    cases P
    · go_wp2_with fail
      go_ret
      exact ⟨ret_bool (by rw [HD.out]; simp), HB1.out⟩
    · by_cases h0 : s.size = 0
      · have hn : s.toList = [] := size_nil (by omega)
        go_wp2_with fail
        go_ret
        exact ⟨ret_bool (by rw [HD.out]; simp [h0]), HB1.out⟩
      · have hn : (s.toList == []) = false := beq_eq_false_iff_ne.2 (size_some (by omega))
        go_wp2_with fail
        refine (Tryz.strings_HasSuffix s ⟨#[10]⟩ _ hs).mono ?_
        rw [show (⟨#[10]⟩ : ByteArray).data.toList = [10] from rfl, HS.out]
        rintro e w3 ⟨rfl, hw⟩
        rw [hw]
        clear hw
        go_wp2_with fail
        go_ret
        exact ⟨ret_bool (by rw [HD.out]; simp [h0, h48]), HB1.out⟩
  · go_enter Tryz.func35, Tryz.ntmps35
    go_wp2_with fail
    go_ret
    exact ⟨ret_bool (by rw [HD.out]; simp [h48]), Below.refl _ _⟩
end Go.Proofs.YtefheailchihaaaGreatDoor.Print

end
section
namespace Go.Proofs.YtefheailchihaaaGreatDoor.Print
open Go.RowKit Go.Lib Go.Shelf Go.Proofs.YtefheailchihaaaGreatDoorW.PrintWords Go.Proofs.YtefheailchihaaaGreatDoorW.PrintLast Go.Proofs.YtefheailchihaaaGreatDoorW.PrintMore
set_option linter.unusedVariables false

/-- The parser in block B: its lists' values, its two function values, what was wrong first. -/
def Pb (w : World) (B : Nat) (vE vP vD vO vR fd fo : Value) (e : Int) : Prop := w.heap[B]? = some (.cells #[vE, vP, vD, vO, vR, fd, fo, .int .i64 e] 57 (0, 0))
theorem pb_cells {w : World} {B : Nat} {vE vP vD vO vR fd fo : Value} {e : Int} (h : Pb w B vE vP vD vO vR fd fo e) :
    w.cell? ⟨B, 0, none⟩ = some vE ∧ w.cell? ⟨B, 1, none⟩ = some vP ∧ w.cell? ⟨B, 2, none⟩ = some vD ∧ w.cell? ⟨B, 3, none⟩ = some vO ∧ w.cell? ⟨B, 4, none⟩ = some vR ∧ w.cell? ⟨B, 5, none⟩ = some fd ∧ w.cell? ⟨B, 6, none⟩ = some fo ∧ w.cell? ⟨B, 7, none⟩ = some (.int .i64 e) ∧ ∀ i, w.frozen? ⟨B, i, none⟩ = false :=
  ⟨blk_cell h 0, blk_cell h 1, blk_cell h 2, blk_cell h 3, blk_cell h 4, blk_cell h 5, blk_cell h 6, blk_cell h 7, fun i => blk_frozen h i⟩
def needE (e : Int) (is : Bool) : Int := if is = false ∧ e = 0 then 800 else e
def roomE (e : Int) (is : Bool) : Int := if is = false ∧ e = 0 then 801 else e
def tookE (e c : Int) : Int := needE (roomE e (c != 401)) (c == 0)

set_option maxRecDepth 100000 in
theorem need_calls (B : Nat) (vE vP vD vO vR fd fo : Value) (e : Int) (is : Bool) (w : World) (h : Pb w B vE vP vD vO vR fd fo e) :
    Calls Tryz.prog 40 #[.pointer (some ⟨B, 0, none⟩), .bool is] w fun x w' => x = .returned (.tuple #[]) ∧ Pb w' B vE vP vD vO vR fd fo (needE e is) ∧ Kept w w' (fun k => k = B) ∧ ∀ base, base ≤ B → Below base w w' := by
  have H := Lib.hid h
  obtain ⟨_, _, _, _, _, _, _, c7, f⟩ := pb_cells h
  have f7 := f 7
  clear f h
  have HN := Lib.hid (show needE e is = if is = false ∧ e = 0 then 800 else e from rfl)
  cases is
  · by_cases h0 : e = 0
    · subst h0
      go_enter Tryz.func40, Tryz.ntmps40
      go_wp2_with fail
      go_end0
      rw [HN.out, if_pos (by simp)]
      exact ⟨rfl, blk_put H.out 7 _ rfl, kept_one w B 7 _, fun base hb => (Below.refl _ _).setCell hb _⟩
    · have h0b : (e == 0) = false := beq_eq_false_iff_ne.2 h0
      go_enter Tryz.func40, Tryz.ntmps40
      go_wp2_with fail
      go_end0
      rw [HN.out, if_neg (fun h => h0 h.2)]
      exact ⟨rfl, H.out, Kept.refl _ _, fun base hb => Below.refl _ _⟩
  · go_enter Tryz.func40, Tryz.ntmps40
    go_wp2_with fail
    go_end0
    rw [HN.out, if_neg (fun h => absurd h.1 (by decide))]
    exact ⟨rfl, H.out, Kept.refl _ _, fun base hb => Below.refl _ _⟩

set_option maxRecDepth 100000 in
theorem room_calls (B : Nat) (vE vP vD vO vR fd fo : Value) (e : Int) (is : Bool) (w : World) (h : Pb w B vE vP vD vO vR fd fo e) :
    Calls Tryz.prog 79 #[.pointer (some ⟨B, 0, none⟩), .bool is] w fun x w' => x = .returned (.tuple #[]) ∧ Pb w' B vE vP vD vO vR fd fo (roomE e is) ∧ Kept w w' (fun k => k = B) ∧ ∀ base, base ≤ B → Below base w w' := by
  have H := Lib.hid h
  obtain ⟨_, _, _, _, _, _, _, c7, f⟩ := pb_cells h
  have f7 := f 7
  clear f h
  have HN := Lib.hid (show roomE e is = if is = false ∧ e = 0 then 801 else e from rfl)
  cases is
  · by_cases h0 : e = 0
    · subst h0
      go_enter Tryz.func79, Tryz.ntmps79
      go_wp2_with fail
      go_end0
      rw [HN.out, if_pos (by simp)]
      exact ⟨rfl, blk_put H.out 7 _ rfl, kept_one w B 7 _, fun base hb => (Below.refl _ _).setCell hb _⟩
    · have h0b : (e == 0) = false := beq_eq_false_iff_ne.2 h0
      go_enter Tryz.func79, Tryz.ntmps79
      go_wp2_with fail
      go_end0
      rw [HN.out, if_neg (fun h => h0 h.2)]
      exact ⟨rfl, H.out, Kept.refl _ _, fun base hb => Below.refl _ _⟩
  · go_enter Tryz.func79, Tryz.ntmps79
    go_wp2_with fail
    go_end0
    rw [HN.out, if_neg (fun h => absurd h.1 (by decide))]
    exact ⟨rfl, H.out, Kept.refl _ _, fun base hb => Below.refl _ _⟩

set_option maxRecDepth 100000 in
theorem took_calls (B : Nat) (vE vP vD vO vR fd fo : Value) (e c : Int) (w : World) (h : Pb w B vE vP vD vO vR fd fo e) :
    Calls Tryz.prog 86 #[.pointer (some ⟨B, 0, none⟩), .int .i64 c] w fun x w' => x = .returned (.tuple #[]) ∧ Pb w' B vE vP vD vO vR fd fo (tookE e c) ∧ Kept w w' (fun k => k = B) ∧ ∀ base, base ≤ B → Below base w w' := by
  have H1 := Lib.hid (room_calls B vE vP vD vO vR fd fo e (c != 401) w h)
  clear h
  go_enter Tryz.func86, Tryz.ntmps86
  go_wp2_with (first | (go_at_call 79; refine H1.out.mono ?_; rintro x w1 ⟨rfl, hp, hk, hb⟩; have HP1 := Aside0.mk hp; have HK1 := Aside0.mk hk; have HB1 := Aside0.mk hb; clear hp hk hb) | (go_at_call 40; refine (need_calls B vE vP vD vO vR fd fo _ _ _ HP1.out).mono ?_; rintro x w2 ⟨rfl, hp, hk, hb⟩; have HP2 := Aside0.mk hp; have HK2 := Aside0.mk hk; have HB2 := Aside0.mk hb; clear hp hk hb))
  go_end0
  exact ⟨rfl, HP2.out, Kept.then_ HK1.out HK2.out (fun k hk => .inl hk), fun base hb => (HB1.out base hb).trans (HB2.out base hb)⟩
end Go.Proofs.YtefheailchihaaaGreatDoor.Print

end
section
namespace Go.Proofs.YtefheailchihaaaGreatDoor.Print
open Go.RowKit Go.Lib Go.Shelf Go.Proofs.YtefheailchihaaaGreatDoorW.PrintWords Go.Proofs.YtefheailchihaaaGreatDoorW.PrintLast Go.Proofs.YtefheailchihaaaGreatDoorW.PrintMore
set_option linter.unusedVariables false

def cutAtC (c : UInt8) (s : ByteArray) : Int := Lib.indexByte s.data.toList c
def cutC (c : UInt8) (s : ByteArray) : ByteArray × ByteArray × Bool := if 0 ≤ cutAtC c s then (s.extract 0 (cutAtC c s).toNat, s.extract ((cutAtC c s).toNat + 1) s.size, true) else (s, ⟨#[]⟩, false)
theorem cutAt_ltC (c : UInt8) (s : ByteArray) (h : 0 ≤ cutAtC c s) : ∃ i : Nat, cutAtC c s = i ∧ i < s.size := by
  obtain ⟨i, hi⟩ := Int.eq_ofNat_of_zero_le h
  refine ⟨i, hi, ?_⟩
  have := (Lib.indexByte_some (show Lib.indexByte s.data.toList c = (i : Nat) from hi)).1
  rw [Lib.size_eq]
  exact (List.getElem?_eq_some_iff.mp this).1

set_option maxHeartbeats 1000000 in
set_option maxRecDepth 100000 in
theorem cutB_callsC (c : UInt8) (s : ByteArray) (hs : s.size ≤ 9223372036854775807) (w : World) :
    Calls Tryz.prog 67 #[.string s, .string ⟨#[c]⟩] w fun e w' => e = .returned (.tuple #[.string (cutC c s).1, .string (cutC c s).2.1, .bool (cutC c s).2.2]) ∧ ∃ n, w' = w.drewN n := by
  by_cases h : 0 ≤ cutAtC c s
  · obtain ⟨i, hi, hlt⟩ := cutAt_ltC c s h
    have hd : Hid (cutC c s = (s.extract 0 i, s.extract (i + 1) s.size, true)) := by
      unfold cutC
      rw [if_pos h, hi]
      exact Lib.hid rfl
    have HI : Hid (Lib.indexByte s.data.toList c = (i : Int)) := Lib.hid hi
    clear h hi
    have h0 : (0 : Int) ≤ i := by omega
    have h1 : (i : Int) ≤ s.size := by omega
    have h2 : (0 : Int) ≤ (i : Int) + 1 := by omega
    have h3 : (i : Int) + 1 ≤ s.size := by omega
    have h4 : IntKind.i64.wrap ((i : Int) + 1) = (i : Int) + 1 := IntWalk.i64_in _ (by omega)
    have h5 : ((i : Int) + 1).toNat = i + 1 := by omega
    go_enter Tryz.func67, Tryz.ntmps67
    go_wp2_with fail
    refine (Tryz.stringslite_Index_one s c _).mono ?_
    rintro e w' ⟨rfl, rfl⟩
    rw [HI.out]
    go_wp2_with fail
    go_quiet (fail)
    go_wp2_with fail
    refine bodyPost_ret (v := .tuple #[.string (s.extract 0 i), .string (s.extract (i + 1) s.size), .bool true]) (by simp [results, Tryz.results67, go_sem]) rfl ?_
    rw [hd.out]
    exact ⟨rfl, _, rfl⟩
  · have hd : Hid (cutC c s = (s, ⟨#[]⟩, false)) := by
      unfold cutC
      rw [if_neg h]
      exact Lib.hid rfl
    have HI : Hid (Lib.indexByte s.data.toList c = -1) := Lib.hid (by have := Lib.indexByte_ge s.data.toList c; unfold cutAtC at h; omega)
    clear h
    go_enter Tryz.func67, Tryz.ntmps67
    go_wp2_with fail
    refine (Tryz.stringslite_Index_one s c _).mono ?_
    rintro e w' ⟨rfl, rfl⟩
    rw [HI.out]
    go_wp2_with fail
    refine bodyPost_ret (v := .tuple #[.string s, .string ⟨#[]⟩, .bool false]) (by simp [results, Tryz.results67, go_sem]) rfl ?_
    rw [hd.out]
    exact ⟨rfl, 0, rfl⟩

set_option maxHeartbeats 1000000 in
theorem cut_callsC (c : UInt8) (s : ByteArray) (hs : s.size ≤ 9223372036854775807) (w : World) :
    Calls Tryz.prog 36 #[.string s, .string ⟨#[c]⟩] w fun e w' => e = .returned (.tuple #[.string (cutC c s).1, .string (cutC c s).2.1, .bool (cutC c s).2.2]) ∧ ∃ n, w' = w.drewN n := by
  obtain ⟨⟨t1, t2, t3⟩, ht⟩ : ∃ t, cutC c s = t := ⟨_, rfl⟩
  have HT := Lib.hid ht
  clear ht
  go_enter Tryz.func36, Tryz.ntmps36
  go_wp2_with fail
  refine (cutB_callsC c s hs _).mono ?_
  rw [HT.out]
  rintro e w' ⟨rfl, n, rfl⟩
  go_wp2_with fail
  refine bodyPost_ret (v := .tuple #[.string t1, .string t2, .bool t3]) (by simp [results, Tryz.results36, go_sem]) rfl ?_
  rw [HT.out]
  exact ⟨rfl, _, rfl⟩
end Go.Proofs.YtefheailchihaaaGreatDoor.Print

end
section
namespace Go.Proofs.YtefheailchihaaaGreatDoor.Print
open Go.RowKit Go.Lib Go.Shelf Go.Proofs.YtefheailchihaaaGreatDoorW.PrintWords Go.Proofs.YtefheailchihaaaGreatDoorW.PrintLast Go.Proofs.YtefheailchihaaaGreatDoorW.PrintMore
set_option linter.unusedVariables false

def frontB (t : ByteArray) : ByteArray := ⟨(Lib.trimLeftB t.data.toList 32).toArray⟩
def trimBB (t : ByteArray) : ByteArray := ⟨(Lib.trimB t.data.toList 32).toArray⟩
def joinGo : ByteArray → ByteArray → List ByteArray → Option (ByteArray × List ByteArray)
  | line, last, [] => if onB last = true then none else some (line, [])
  | line, last, r :: rs => if onB last = true then joinGo (line.extract 0 (line.size - 1) ++ frontB r) (frontB r) rs else some (line, r :: rs)
def firstIs (c : UInt8) (s : ByteArray) : Bool := s.data.toList.head? == some c
def addLine (out : List S59) (line : ByteArray) : List S59 :=
  if (trimBB line).size = 0 ∨ firstIs 35 (trimBB line) = true then out else out ++ [⟨firstIs 32 line, trimBB line⟩]
def linesGo : Nat → List ByteArray → List S59 → List S59 × Int
  | 0, _, out => (out, 0)
  | _ + 1, [], out => (out, 0)
  | k + 1, r :: rs, out => match joinGo r r rs with
    | none => ([], 600)
    | some p => linesGo k p.2 (addLine out p.1)
def splitL : List UInt8 → List UInt8 → List (List UInt8)
  | cur, [] => [cur]
  | cur, c :: l => if c = 10 then cur :: splitL [] l else splitL (cur ++ [c]) l
def rowsOf (s : ByteArray) : List ByteArray := (splitL [] s.data.toList).dropLast.map fun l => ⟨l.toArray⟩
def linesCut (s : ByteArray) : List S59 × Int := if mayB s = true then linesGo (rowsOf s).length (rowsOf s) [] else ([], 600)
def unrows (rs : List ByteArray) : List UInt8 := rs.flatMap fun r => r.data.toList ++ [10]
def NoNl (rs : List ByteArray) : Prop := ∀ r ∈ rs, (10 : UInt8) ∉ r.data.toList
theorem unrows_cons (r : ByteArray) (rs : List ByteArray) : unrows (r :: rs) = r.data.toList ++ (10 :: unrows rs) := by simp [unrows]
theorem index_row (a b : List UInt8) (h : (10 : UInt8) ∉ a) : Lib.indexByte (a ++ 10 :: b) 10 = (a.length : Nat) := by
  induction a with
  | nil => simp [Lib.indexByte]
  | cons c a ih =>
    have hc : ¬ c = 10 := fun e => h (by simp [e])
    have := ih (fun hm => h (List.mem_cons_of_mem _ hm))
    show (if (c == 10) = true then (0 : Int) else if Lib.indexByte (a ++ 10 :: b) 10 == -1 then -1 else Lib.indexByte (a ++ 10 :: b) 10 + 1) = _
    rw [this, if_neg (by simpa using hc)]
    rw [if_neg (by simp; try omega)]
    simp
theorem cut_row (r : ByteArray) (rs : List ByteArray) (h : (10 : UInt8) ∉ r.data.toList) : cutStepD ⟨(unrows (r :: rs)).toArray⟩ = (r, ⟨(unrows rs).toArray⟩, true) := by
  have hi : cutAtD ⟨(unrows (r :: rs)).toArray⟩ = (r.size : Nat) := by
    unfold cutAtD
    rw [unrows_cons, Lib.size_eq]
    exact index_row _ _ h
  unfold cutStepD
  rw [hi, if_pos (by omega), Int.toNat_natCast]
  have e1 : (⟨(unrows (r :: rs)).toArray⟩ : ByteArray).extract 0 r.size = r := by
    apply ByteArray.ext
    apply Array.toList_inj.1
    rw [Lib.extract_data, unrows_cons]
    show ((r.data.toList ++ 10 :: unrows rs).drop 0).take (r.size - 0) = r.data.toList
    rw [List.drop_zero, Nat.sub_zero, Lib.size_eq, List.take_left]
  have e2 : (⟨(unrows (r :: rs)).toArray⟩ : ByteArray).extract (r.size + 1) (⟨(unrows (r :: rs)).toArray⟩ : ByteArray).size = ⟨(unrows rs).toArray⟩ := by
    apply ByteArray.ext
    apply Array.toList_inj.1
    rw [Lib.extract_to_end, unrows_cons]
    show List.drop (r.size + 1) (r.data.toList ++ 10 :: unrows rs) = unrows rs
    rw [Lib.size_eq, List.drop_append]
    simp
  rw [e1, e2]
theorem split_unrows (l : List UInt8) : ∀ cur, (∃ x, (splitL cur l).dropLast.flatMap (fun r => r ++ [10]) ++ x = cur ++ l ∧ (splitL cur l).getLast? = some x) := by
  induction l with
  | nil => intro cur; exact ⟨cur, by simp [splitL], by simp [splitL]⟩
  | cons c l ih =>
    intro cur
    simp only [splitL]
    split
    · rename_i hc
      subst hc
      obtain ⟨x, h1, h2⟩ := ih []
      have hne : splitL [] l ≠ [] := fun e => by rw [e] at h2; simp at h2
      refine ⟨x, ?_, ?_⟩
      · rw [List.dropLast_cons_of_ne_nil hne, List.flatMap_cons, List.append_assoc, h1]
        simp
      · rw [List.getLast?_cons, h2]
        rfl
    · obtain ⟨x, h1, h2⟩ := ih (cur ++ [c])
      exact ⟨x, by rw [h1]; simp, h2⟩
theorem split_noNl (l : List UInt8) : ∀ cur, (10 : UInt8) ∉ cur → ∀ r ∈ splitL cur l, (10 : UInt8) ∉ r := by
  induction l with
  | nil => intro cur h r hr; simp [splitL] at hr; subst hr; exact h
  | cons c l ih =>
    intro cur h r hr
    simp only [splitL] at hr
    split at hr
    · rcases List.mem_cons.1 hr with e | e
      · subst e; exact h
      · exact ih [] (by simp) r e
    · rename_i hc
      exact ih (cur ++ [c]) (by simp [h]; exact fun e => hc e.symm) r hr
theorem rows_noNl (s : ByteArray) : NoNl (rowsOf s) := by
  intro r hr
  unfold rowsOf at hr
  obtain ⟨l, hl, rfl⟩ := List.mem_map.1 hr
  exact split_noNl s.data.toList [] (by simp) l (List.dropLast_subset _ hl)
/-- A text that ends as it may is its rows, each with its end. -/
theorem rows_unrows (s : ByteArray) (h : s.size = 0 ∨ Lib.hasSuffix s.data.toList [10] = true) : unrows (rowsOf s) = s.data.toList := by
  obtain ⟨x, h1, h2⟩ := split_unrows s.data.toList []
  have e : unrows (rowsOf s) = (splitL [] s.data.toList).dropLast.flatMap (fun r => r ++ [10]) := by
    unfold unrows rowsOf
    rw [List.flatMap_map]
  rw [List.nil_append] at h1
  have hx : (10 : UInt8) ∉ x := by
    have hm : x ∈ splitL [] s.data.toList := List.mem_of_getLast? h2
    exact split_noNl s.data.toList [] (by simp) x hm
  have : x = [] := by
    rcases h with h | h
    · have hs : s.data.toList = [] := List.length_eq_zero_iff.1 (by rw [← Lib.size_eq]; exact h)
      rw [hs] at h1
      exact (List.append_eq_nil_iff.1 h1).2
    · rw [← h1] at h
      unfold Lib.hasSuffix at h
      rw [List.isSuffixOf_iff_suffix] at h
      rcases List.eq_nil_or_concat x with e | ⟨y, c, e⟩
      · exact e
      · rw [List.concat_eq_append] at e
        rw [e, ← List.append_assoc] at h
        obtain ⟨t, ht⟩ := h
        have := congrArg List.getLast? ht
        simp at this
        exact absurd (by rw [e]; simp [this]) hx
  rw [this, List.append_nil] at h1
  rw [e, h1]
theorem front_size (t : ByteArray) : (frontB t).size ≤ t.size := by
  unfold frontB Lib.trimLeftB
  have := (List.dropWhile_sublist (l := t.data.toList) (fun c => c == (32 : UInt8))).length_le
  have e := Lib.size_eq t
  have e2 : (⟨(t.data.toList.dropWhile fun c => c == (32 : UInt8)).toArray⟩ : ByteArray).size = (t.data.toList.dropWhile fun c => c == (32 : UInt8)).length := by simp [ByteArray.size]
  omega

def U (rs : List ByteArray) : ByteArray := ⟨(unrows rs).toArray⟩
theorem U_size (rs : List ByteArray) : (U rs).size = (unrows rs).length := by simp [U, ByteArray.size]
theorem cut_U (r : ByteArray) (rs : List ByteArray) (h : (10 : UInt8) ∉ r.data.toList) : cutStepD (U (r :: rs)) = (r, U rs, true) := cut_row r rs h
theorem unrows_len (r : ByteArray) (rs : List ByteArray) : (unrows (r :: rs)).length = r.size + 1 + (unrows rs).length := by
  rw [unrows_cons, List.length_append, List.length_cons, Lib.size_eq]; omega
theorem on_pos {s : ByteArray} (h : onB s = true) : 1 ≤ s.size := by
  have := tail_trim s.data.toList
  have e := Lib.size_eq s
  unfold onB at h
  have h2 : tailN s.data.toList % 2 = 1 := by simpa using h
  omega
theorem joinGo_off {line last : ByteArray} (qs : List ByteArray) (h : onB last = false) : joinGo line last qs = some (line, qs) := by
  cases qs <;> simp [joinGo, h]
theorem joinGo_none {line last : ByteArray} (h : onB last = true) : joinGo line last [] = none := by simp [joinGo, h]
theorem joinGo_on {line last : ByteArray} (q : ByteArray) (qs : List ByteArray) (h : onB last = true) : joinGo line last (q :: qs) = joinGo (line.extract 0 (line.size - 1) ++ frontB q) (frontB q) qs := by simp [joinGo, h]
theorem linesGo_nil (k : Nat) (out : List S59) : linesGo k [] out = (out, 0) := by cases k <;> rfl
def after (k : Nat) (out : List S59) : Option (ByteArray × List ByteArray) → List S59 × Int
  | none => ([], 600)
  | some p => linesGo k p.2 (addLine out p.1)
theorem linesGo_cons (k : Nat) (r : ByteArray) (rs : List ByteArray) (out : List S59) : linesGo (k + 1) (r :: rs) out = after k out (joinGo r r rs) := by
  simp only [linesGo, after]
  first | done | (cases joinGo r r rs <;> rfl)
def szOfD : Value → Nat
  | .string s => s.size
  | _ => 1048577
def RelD (w : World) (F : List S59 × Int) (v0 v4 : Value) (wr : World) : Prop :=
  ∃ (k : Nat) (rs : List ByteArray) (out : List S59), v0 = .string (U rs) ∧ NoNl rs ∧ rs.length ≤ k ∧ (unrows rs).length ≤ 2048 ∧ out.length + rs.length ≤ 2049 ∧ Kd.R k59 59 wr w.heap.size (fun _ => True) v4 out ∧ Below w.heap.size w wr ∧ linesGo k rs out = F
def RelIn (wo : World) (J : Option (ByteArray × List ByteArray)) (rs : List ByteArray) (v5 v6 v8 : Value) (wq : World) : Prop :=
  ∃ (line last : ByteArray) (qs : List ByteArray), v5 = .string line ∧ v6 = .string (U qs) ∧ v8 = .string last ∧ NoNl qs ∧ qs.length ≤ rs.length ∧ (unrows qs).length ≤ (unrows rs).length ∧ last.size ≤ line.size ∧ line.size + (unrows qs).length ≤ 2048 ∧ joinGo line last qs = J ∧ Drawn0 wo wq

theorem trim_size (t : ByteArray) : (trimBB t).size ≤ t.size := by
  have h1 := (List.dropWhile_sublist (l := Lib.trimRightB t.data.toList 32) (fun c => c == (32 : UInt8))).length_le
  have h2 := (List.dropWhile_sublist (l := t.data.toList.reverse) (fun c => c == (32 : UInt8))).length_le
  have e := Lib.size_eq t
  have e2 : (trimBB t).size = ((Lib.trimRightB t.data.toList 32).dropWhile fun c => c == (32 : UInt8)).length := by simp [trimBB, Lib.trimB, Lib.trimLeftB, ByteArray.size]
  have e3 : (Lib.trimRightB t.data.toList 32).length = (t.data.toList.reverse.dropWhile fun c => c == (32 : UInt8)).length := by simp [Lib.trimRightB]
  rw [List.length_reverse] at h2
  omega
theorem first_get (c : UInt8) (s : ByteArray) (h : 0 < s.size) : firstIs c s = ((s[0].toNat : Int) == (c.toNat : Int)) := by
  have hd := drop_cons s 0 h
  rw [List.drop_zero] at hd
  unfold firstIs
  rw [hd, List.head?_cons, Bool.eq_iff_iff]
  simp only [beq_iff_eq, Option.some.injEq]
  constructor
  · intro e; rw [e]
  · intro e; exact UInt8.toNat_inj.1 (by omega)

set_option maxHeartbeats 8000000 in
set_option maxRecDepth 100000 in
theorem lines_calls (s : ByteArray) (hs : s.size ≤ 9223372036854775807) (w : World) :
    Calls Tryz.prog 18 #[.string s] w fun e w' => ∃ v : Value, e = .returned (.tuple #[v, .int .i64 (linesCut s).2]) ∧ Kd.R k59 59 w' w.heap.size (fun _ => True) v (linesCut s).1 ∧ Below w.heap.size w w' := by
  have HD : Hid (linesCut s = if mayB s = true then linesGo (rowsOf s).length (rowsOf s) [] else ([], 600)) := rfl
  cases hm : mayB s
  · rw [hm, if_neg (by decide)] at HD
    have HM := Lib.hid hm
    clear hm
    go_enter Tryz.func18, Tryz.ntmps18
    go_wp2_with fail
    refine (linesMay_calls s hs _).mono ?_
    rw [HM.out]
    rintro e w1 ⟨rfl, hb1⟩
    go_wp2_with fail
    go_ret2
    rw [HD.out]
    exact ⟨_, rfl, Kd.R_nil _ _ _ _ _, hb1⟩
  · rw [hm, if_pos rfl] at HD
    have hmm := hm
    unfold mayB at hmm
    simp only [Bool.and_eq_true, Bool.or_eq_true, decide_eq_true_eq] at hmm
    obtain ⟨h48, -, hend⟩ := hmm
    have hun := rows_unrows s hend
    have hU : s = U (rowsOf s) := by unfold U; rw [hun]
    have hnn := rows_noNl s
    have hlu : (unrows (rowsOf s)).length ≤ 2048 := by rw [hun, ← Lib.size_eq]; exact h48
    have hlr : (rowsOf s).length ≤ (unrows (rowsOf s)).length := by
      generalize rowsOf s = rs
      induction rs with
      | nil => simp
      | cons r rs ih => rw [unrows_len]; simp; omega
    obtain ⟨F, hF⟩ : ∃ F, linesGo (rowsOf s).length (rowsOf s) [] = F := ⟨_, rfl⟩
    rw [hF] at HD
    have HM := Lib.hid hm
    have HST := Aside0.mk (show (∃ rs : List ByteArray, Value.string s = .string (U rs) ∧ NoNl rs ∧ (unrows rs).length ≤ 2048 ∧ rs.length ≤ 2048 ∧ linesGo rs.length rs [] = F) from ⟨rowsOf s, by rw [← hU], hnn, hlu, by omega, hF⟩)
    clear hm hF hend hun hU hnn hlu hlr
    go_enter Tryz.func18, Tryz.ntmps18
    go_wp2_with fail
    refine (linesMay_calls s hs _).mono ?_
    rw [HM.out]
    rintro e w1 ⟨rfl, hb1⟩
    have HB1 := Aside0.mk hb1
    clear hb1
    go_wp2_with fail
    go_loopw [0, 4] (fun v0 v4 wr => RelD w F v0 v4 wr) (fun v0 v4 _ => szOfD v0)
    case atStart =>
      obtain ⟨rs, e, h1, h2, h3, h4⟩ := HST.out
      exact ⟨rs.length, rs, [], e, h1, Nat.le_refl _, h2, by simp; omega, Kd.R_nil _ _ _ _ _, HB1.out, h4⟩
    case round =>
      clear HST HB1 hs h48 HM
      obtain ⟨k, rs, out, rfl, hnn, hk, hlu, hlo, hR, hbel, hgo⟩ := hrel
      obtain ⟨A, c, hv4⟩ := Kd.R_slice hR
      subst hv4
      cases rs with
      | nil =>
        rw [linesGo_nil] at hgo
        have HF := Lib.hid hgo
        have HR := Aside0.mk hR
        have hn : (U []).toList = [] := size_nil (by rw [U_size]; simp [unrows])
        clear hgo hR
        go_wp2_with fail
        go_ret2
        rw [HD.out, ← HF.out]
        exact ⟨_, rfl, HR.out, hbel⟩
      | cons r rs =>
        obtain ⟨k, rfl⟩ : ∃ m, k = m + 1 := ⟨k - 1, by simp at hk; omega⟩
        rw [linesGo_cons] at hgo
        have hr : (10 : UInt8) ∉ r.data.toList := hnn r (by simp)
        have hnr : NoNl rs := fun q hq => hnn q (by simp [hq])
        have hul := unrows_len r rs
        have hsz := U_size (r :: rs)
        have hn : ((U (r :: rs)).toList == []) = false := beq_eq_false_iff_ne.2 (size_some (by omega))
        have HCUT := Lib.hid (cut_U r rs hr)
        obtain ⟨J, hJ⟩ : ∃ J, joinGo r r rs = J := ⟨_, rfl⟩
        rw [hJ] at hgo
        have HGO := Lib.hid hgo
        have HJ := Lib.hid hJ
        have HR := Aside0.mk hR
        have HNR := Aside0.mk hnr
        have hk2 : rs.length ≤ k := by simpa using hk
        have hlo2 : out.length + rs.length + 1 ≤ 2049 := by simp at hlo; omega
        have hlu2 : r.size + (unrows rs).length ≤ 2048 := by omega
        have hsl : (U (r :: rs)).size ≤ 9223372036854775807 := by omega
        have hdec : (unrows rs).length < (U (r :: rs)).size := by omega
        have HBW := Aside0.mk hbel
        clear hgo hJ hR hnr hnn hr hk hlo hlu hul hbel hsz
        generalize U (r :: rs) = V at *
        go_wp2_with fail
        refine (cut_calls V hsl _).mono ?_
        rw [HCUT.out]
        rintro e w2 ⟨rfl, n, rfl⟩
        have HR2 := Aside0.mk (Kd.R_drewN HR.out n)
        have HBW2 := Aside0.mk (pw_below_drewN HBW.out n)
        clear HR HBW HCUT
        generalize wr.drewN n = wo at *
        go_wp2_with fail
        go_loopw [5, 6, 8] (fun v5 v6 v8 wq => RelIn wo J rs v5 v6 v8 wq) (fun v5 v6 v8 _ => szOfD v6)
        case atStart => exact ⟨r, r, rs, rfl, rfl, rfl, HNR.out, Nat.le_refl _, Nat.le_refl _, Nat.le_refl _, hlu2, HJ.out, Drawn0.refl _⟩
        case round =>
          clear HJ
          obtain ⟨line, last, qs, rfl, rfl, rfl, hnq, hql, hqu, hll, hlq, hj, ⟨m, hm⟩⟩ := hrel
          subst hm
          have HR3 := Aside0.mk (Kd.R_drewN HR2.out m)
          have HBW3 := Aside0.mk (pw_below_drewN HBW2.out m)
          have hD3 := Aside0.mk (show Drawn0 wo (wo.drewN m) from ⟨m, rfl⟩)
          clear HR2 HBW2
          generalize wo.drewN m = wq at *
          have HNQ := Aside0.mk hnq
          have HJ := Lib.hid hj
          clear hnq hj
          cases hon : onB last
          · have hJ : some (line, qs) = J := by rw [← HJ.out, joinGo_off qs hon]
            have HF := Lib.hid (show linesGo k qs (addLine out line) = F from by rw [← HGO.out, ← hJ]; rfl)
            have HON := Lib.hid hon
            obtain ⟨T, hT⟩ : ∃ T, trimBB line = T := ⟨_, rfl⟩
            have hTz := trim_size line
            have HA : Hid (addLine out line = if T.size = 0 ∨ firstIs 35 T = true then out else out ++ [⟨firstIs 32 line, T⟩]) := Lib.hid (by unfold addLine; rw [hT])
            rw [hT] at hTz
            have HT : Hid ((⟨(Lib.trimB line.data.toList 32).toArray⟩ : ByteArray) = T) := Lib.hid hT
            have hql2 : qs.length ≤ k := by omega
            have hqd : (U qs).size < V.size := by rw [U_size]; omega
            have hlu3 : (unrows qs).length ≤ 2048 := by omega
            clear hon hJ HJ HGO hT
            go_wp2_with fail
            refine (on_calls last (by omega) _).mono ?_
            rw [HON.out]
            rintro e w3 ⟨rfl, rfl⟩
            go_wp2_with fail
            refine (Tryz.strings_Trim_one line 32 (by decide) _ (by omega)).mono ?_
            rw [HT.out]
            rintro e w4 ⟨rfl, hw⟩
            have hd : ∃ n, w4 = wq.drewN n := by
              rcases hw with h | h
              · exact ⟨0, h⟩
              · exact ⟨1, h⟩
            obtain ⟨n4, rfl⟩ := hd
            have HR4 := Aside0.mk (Kd.R_drewN HR3.out n4)
            have HBW4 := Aside0.mk (pw_below_drewN HBW3.out n4)
            clear hw HR3 HBW3 hD3
            generalize wq.drewN n4 = wz at *
            by_cases h0 : T.size = 0
            · have hn0 : T.toList = [] := size_nil (by omega)
              rw [if_pos (Or.inl h0)] at HA
              go_wp2_with fail
              exact ⟨⟨k, qs, out, rfl, HNQ.out, hql2, hlu3, by omega, HR4.out, HBW4.out, by rw [← HA.out]; exact HF.out⟩, hqd⟩
            · have hn0 : (T.toList == []) = false := beq_eq_false_iff_ne.2 (size_some (by omega))
              have hT0 : 0 < T.size := by omega
              have hl0 : 0 < line.size := by omega
              have hf35 := first_get 35 T hT0
              have hf32 := Lib.hid (first_get 32 line hl0)
              cases hc : firstIs 35 T
              · rw [if_neg (by rw [hc]; simp [h0])] at HA
                rw [hc] at hf35
                have hb1 : ((T[0].toNat : Int) == 35) = false := hf35.symm
                have hb2 : ((T[0].toNat : Int) != 35) = true := by rw [bne, hb1]; rfl
                clear hf35 hc
                rw [hf32.out] at HA
                go_wp2_with (first | ((with_reducible refine gate_builtin (b := .append) (xs := #[.tmp 51, .tmp 57]) rfl ?_); at_builtin; refine Kd.R_append k59 (w0 := w) w.heap.size rfl (.tmp 51) (.tmp 57) 49 59 (.agg #[(.bool false), (.string ⟨#[]⟩)]) 24 rfl Tryz.underlying49 info59 rfl (by decide) (by omega) (.slice A out.length c) out (⟨((line[0].toNat : Int) == 32), T⟩ : S59) [.bool ((line[0].toNat : Int) == 32), .string T] (fun _ => True) (fun _ => False) rfl rfl (k59_mkM _ _ _ (⟨((line[0].toNat : Int) == 32), T⟩ : S59)) (fun _ hk => hk.elim) (fun _ _ => trivial) HR4.out HBW4.out HBW4.out.size (by omega) ?_; intro v5 w5 ho5 hb5 hg hat; clear hg hat))
                exact ⟨⟨k, qs, _, rfl, HNQ.out, hql2, hlu3, by rw [List.length_append, List.length_singleton]; omega, ho5, hb5, by rw [← HF.out, HA.out]; rfl⟩, hqd⟩
              · rw [if_pos (Or.inr hc)] at HA
                rw [hc] at hf35
                have hb1 : ((T[0].toNat : Int) == 35) = true := hf35.symm
                have hb2 : ((T[0].toNat : Int) != 35) = false := by rw [bne, hb1]; rfl
                clear hf35 hc
                go_wp2_with fail
                exact ⟨⟨k, qs, out, rfl, HNQ.out, hql2, hlu3, by omega, HR4.out, HBW4.out, by rw [← HA.out]; exact HF.out⟩, hqd⟩
          · have HON := Lib.hid hon
            have hlp := on_pos hon
            cases qs with
            | nil =>
              have HF := Lib.hid (show (([] : List S59), (600 : Int)) = F from by rw [← HGO.out, ← HJ.out, joinGo_none hon]; rfl)
              have hn1 : (U []).toList = [] := size_nil (by rw [U_size]; simp [unrows])
              clear hon
              go_wp2_with fail
              refine (on_calls last (by omega) _).mono ?_
              rw [HON.out]
              rintro e w3 ⟨rfl, rfl⟩
              go_wp2_with fail
              go_ret2
              rw [HD.out, ← HF.out]
              exact ⟨_, rfl, Kd.R_nil _ _ _ _ _, HBW3.out⟩
            | cons q qs =>
              have hJ : joinGo (line.extract 0 (line.size - 1) ++ frontB q) (frontB q) qs = J := by rw [← HJ.out, joinGo_on q qs hon]
              have hq10 : (10 : UInt8) ∉ q.data.toList := HNQ.out q (by simp)
              have hnq2 : NoNl qs := fun x hx => HNQ.out x (by simp [hx])
              have HCUT := Lib.hid (cut_U q qs hq10)
              have hul := unrows_len q qs
              have hsz := U_size (q :: qs)
              have hfz := front_size q
              have HFR : Hid ((⟨(Lib.trimLeftB q.data.toList 32).toArray⟩ : ByteArray) = frontB q) := rfl
              have hn1 : ((U (q :: qs)).toList == []) = false := beq_eq_false_iff_ne.2 (size_some (by omega))
              have hdec2 : (U qs).size < (U (q :: qs)).size := by rw [U_size]; omega
              have HJ2 := Lib.hid hJ
              have HNQ2 := Aside0.mk hnq2
              have hql2 : qs.length ≤ rs.length := by simp at hql; omega
              have hqu2 : (unrows qs).length ≤ (unrows rs).length := by omega
              have hlq2 : line.size + q.size + (unrows qs).length + 1 ≤ 2048 := by omega
              have hvs : (U (q :: qs)).size ≤ 9223372036854775807 := by omega
              clear hon hJ HJ hq10 hnq2 HNQ hul hsz hql hqu hlq
              generalize frontB q = fq at *
              generalize U (q :: qs) = V2 at *
              have hl1 : (1 : Int) ≤ (line.size : Int) := by omega
              go_wp2_with fail
              refine (on_calls last (by omega) _).mono ?_
              rw [HON.out]
              rintro e w3 ⟨rfl, rfl⟩
              go_wp2_with fail
              refine (cut_calls V2 hvs _).mono ?_
              rw [HCUT.out]
              rintro e w4 ⟨rfl, n, rfl⟩
              go_wp2_with fail
              refine (Tryz.strings_TrimLeft_one q 32 (by decide) _).mono ?_
              rw [HFR.out]
              rintro e w5 ⟨rfl, hw5⟩
              rw [hw5]
              clear hw5
              have hcz : (line.extract 0 (line.size - 1) ++ fq).size = line.size - 1 + fq.size := by rw [ByteArray.size_append, ByteArray.size_extract]; omega
              have HD5 := Aside0.mk (show Drawn0 wo (wq.drewN n) from hD3.out.step n)
              go_wp2_with fail
              exact ⟨⟨_, _, qs, rfl, rfl, rfl, HNQ2.out, hql2, hqu2, by rw [hcz]; omega, by rw [hcz]; omega, HJ2.out, HD5.out⟩, hdec2⟩
end Go.Proofs.YtefheailchihaaaGreatDoor.Print

end
section
namespace Go.Proofs.YtefheailchihaaaGreatDoor.Print
open Go.RowKit Go.Lib Go.Shelf Go.Proofs.YtefheailchihaaaGreatDoorW.PrintWords Go.Proofs.YtefheailchihaaaGreatDoorW.PrintLast Go.Proofs.YtefheailchihaaaGreatDoorW.PrintMore
set_option linter.unusedVariables false

/-- What a bind line is cut into: a name, a value; may it be one? -/
def bindB (s : ByteArray) : ByteArray × ByteArray × Bool := (trimBB (cutC 61 s).1, trimBB (cutC 61 s).2.1, (cutC 61 s).2.2 && nameMay (trimBB (cutC 61 s).1))

theorem trim_calls (s : ByteArray) (hs : s.size ≤ 9223372036854775807) (w : World) :
    Calls Tryz.prog 39 #[.string s, .string ⟨#[32]⟩] w fun e w' => e = .returned (.string (trimBB s)) ∧ Below w.heap.size w w' := by
  refine (Tryz.strings_Trim_one s 32 (by decide) w hs).mono ?_
  rintro e w' ⟨rfl, h⟩
  refine ⟨rfl, ?_⟩
  rcases h with rfl | rfl
  · exact Below.refl _ _
  · exact (Below.refl _ _).drew

theorem pb_below {w w1 : World} {B : Nat} {vE vP vD vO vR fd fo : Value} {e : Int} (h : Pb w B vE vP vD vO vR fd fo e) (hb : Below w.heap.size w w1) : Pb w1 B vE vP vD vO vR fd fo e := blk_below h hb

set_option maxHeartbeats 2000000 in
set_option maxRecDepth 100000 in
theorem bind_calls (B : Nat) (vE vP vD vO vR fd fo : Value) (e : Int) (s : ByteArray) (hs : s.size ≤ 1048576) (w : World) (h : Pb w B vE vP vD vO vR fd fo e) :
    Calls Tryz.prog 41 #[.pointer (some ⟨B, 0, none⟩), .string s] w fun x w' => x = .returned (.tuple #[.string (bindB s).1, .string (bindB s).2.1]) ∧ Pb w' B vE vP vD vO vR fd fo (needE e (bindB s).2.2) ∧ Kept w w' (fun k => k = B) ∧ ∀ base, base ≤ B → Below base w w' := by
  have H := Lib.hid h
  have hB := Lib.hid (blk_lt h)
  clear h
  have hbb : bindB s = (trimBB (cutC 61 s).1, trimBB (cutC 61 s).2.1, (cutC 61 s).2.2 && nameMay (trimBB (cutC 61 s).1)) := rfl
  have HCC := Lib.hid (cut_callsC 61 s (by omega) w)
  have hl1 : Hid ((cutC 61 s).1.size ≤ 9223372036854775807) := Lib.hid (by
    unfold cutC
    split
    · simp; omega
    · show s.size ≤ _
      omega)
  have hl2 : Hid ((cutC 61 s).2.1.size ≤ 9223372036854775807) := Lib.hid (by
    unfold cutC
    split
    · simp; omega
    · exact Nat.zero_le _)
  rw [hbb]
  clear hbb
  obtain ⟨⟨t1, t2, t3⟩, ht⟩ : ∃ t, cutC 61 s = t := ⟨_, rfl⟩
  rw [ht] at HCC hl1 hl2 ⊢
  simp only at HCC hl1 hl2 ⊢
  clear ht
  obtain ⟨M, hM⟩ : ∃ M, nameMay (trimBB t1) = M := ⟨_, rfl⟩
  have HM := Lib.hid hM
  rw [hM]
  clear hM
  cases t3
  · rw [Bool.false_and]
    go_enter Tryz.func41, Tryz.ntmps41
    go_wp2_with (go_at_call 36; refine HCC.out.mono ?_; rintro x w1 ⟨rfl, n, rfl⟩; have HD1 := Aside0.mk (pw_below_drewN (Below.refl w.heap.size w) n))
    refine (trim_calls t1 hl1.out _).mono ?_
    rintro x w2 ⟨rfl, hb⟩
    have HB2 := Aside0.mk (HD1.out.trans hb)
    clear hb HD1
    go_wp2_with fail
    refine (need_calls B vE vP vD vO vR fd fo e false _ (pb_below H.out HB2.out)).mono ?_
    rintro x w3 ⟨rfl, hp, hk, hb⟩
    have HP3 := Aside0.mk hp
    have HK3 := Aside0.mk hk
    have HB3 := Aside0.mk hb
    clear hp hk hb
    go_wp2_with fail
    refine (trim_calls t2 hl2.out _).mono ?_
    rintro x w4 ⟨rfl, hb⟩
    have HB4 := Aside0.mk hb
    clear hb
    go_wp2_with fail
    go_ret2
    exact ⟨rfl, pb_below HP3.out HB4.out, (Kept.then_ (Kept.of_below HB2.out _) HK3.out (fun k hk => .inl hk)).below HB4.out, fun base hb => ((HB2.out.mono (Nat.le_trans hb (Nat.le_of_lt hB.out))).trans (HB3.out base hb)).trans (HB4.out.mono (Nat.le_trans hb (Nat.le_of_lt (blk_lt HP3.out))))⟩
  · rw [Bool.true_and]
    go_enter Tryz.func41, Tryz.ntmps41
    go_wp2_with (go_at_call 36; refine HCC.out.mono ?_; rintro x w1 ⟨rfl, n, rfl⟩; have HD1 := Aside0.mk (pw_below_drewN (Below.refl w.heap.size w) n))
    refine (trim_calls t1 hl1.out _).mono ?_
    rintro x w2 ⟨rfl, hb⟩
    have HB2 := Aside0.mk (HD1.out.trans hb)
    clear hb HD1
    go_wp2_with fail
    refine (may_calls _ _).mono ?_
    rintro x w2' ⟨rfl, hb⟩
    have HB2' := Aside0.mk (HB2.out.trans (hb.mono HB2.out.size))
    clear hb
    rw [HM.out]
    go_wp2_with fail
    refine (need_calls B vE vP vD vO vR fd fo e M _ (pb_below H.out HB2'.out)).mono ?_
    rintro x w3 ⟨rfl, hp, hk, hb⟩
    have HP3 := Aside0.mk hp
    have HK3 := Aside0.mk hk
    have HB3 := Aside0.mk hb
    clear hp hk hb
    go_wp2_with fail
    refine (trim_calls t2 hl2.out _).mono ?_
    rintro x w4 ⟨rfl, hb⟩
    have HB4 := Aside0.mk hb
    clear hb
    go_wp2_with fail
    go_ret2
    exact ⟨rfl, pb_below HP3.out HB4.out, (Kept.then_ (Kept.of_below HB2'.out _) HK3.out (fun k hk => .inl hk)).below HB4.out, fun base hb => ((HB2'.out.mono (Nat.le_trans hb (Nat.le_of_lt hB.out))).trans (HB3.out base hb)).trans (HB4.out.mono (Nat.le_trans hb (Nat.le_of_lt (blk_lt HP3.out))))⟩

theorem cell_heap {w2 w3 : World} {b o : Nat} (h : w3.heap[b]? = w2.heap[b]?) : w3.cell? ⟨b, o, none⟩ = w2.cell? ⟨b, o, none⟩ := by simp [World.cell?, h]
/-- The one name of a line, and what is wrong behind it. -/
def oneOk (ws : List ByteArray) : Bool := match ws with
  | [x] => nameMay x
  | _ => false
def oneName (ws : List ByteArray) : ByteArray := match ws with
  | [x] => x
  | _ => ⟨#[]⟩
def oneW (e : Int) (rest : ByteArray) : ByteArray × Int := (if needE e (oneOk (wordsOf rest)) = 0 then oneName (wordsOf rest) else ⟨#[]⟩, needE e (oneOk (wordsOf rest)))

set_option maxHeartbeats 2000000 in
set_option maxRecDepth 100000 in
theorem one_calls (B : Nat) (vE vP vD vO vR fd fo : Value) (e : Int) (s : ByteArray) (hs : s.size ≤ 1048576) (w : World) (h : Pb w B vE vP vD vO vR fd fo e) :
    Calls Tryz.prog 77 #[.pointer (some ⟨B, 0, none⟩), .string s] w fun x w' => x = .returned (.string (oneW e s).1) ∧ Pb w' B vE vP vD vO vR fd fo (oneW e s).2 ∧ Kept w w' (fun k => k = B) ∧ ∀ base, base ≤ B → Below base w w' := by
  have H := Lib.hid h
  have hB := Lib.hid (blk_lt h)
  clear h
  have hbb : oneW e s = (if needE e (oneOk (wordsOf s)) = 0 then oneName (wordsOf s) else ⟨#[]⟩, needE e (oneOk (wordsOf s))) := rfl
  have HWS := Lib.hid (words_calls s hs w)
  rw [hbb]
  clear hbb
  generalize wordsOf s = ws at *
  obtain ⟨E, hE⟩ : ∃ E, needE e (oneOk ws) = E := ⟨_, rfl⟩
  obtain ⟨K, hK⟩ : ∃ K, oneOk ws = K := ⟨_, rfl⟩
  rw [hK] at hE ⊢
  rw [hE]
  have HE := Lib.hid hE
  clear hE
  by_cases hone : ∃ x, ws = [x]
  · obtain ⟨x, rfl⟩ := hone
    have hKM : nameMay x = K := hK
    have HKM := Lib.hid hKM
    clear hKM hK
    go_enter Tryz.func77, Tryz.ntmps77
    go_wp2_with (go_at_call 91; refine HWS.out.mono ?_; rintro y w1 ⟨v, rfl, hR, hb⟩; obtain ⟨A, c, rfl⟩ := Kd.R_slice hR; obtain ⟨b, off, rfl, hx⟩ := Vs_head (Vs_of_R hR); have hbn := Kd.F_in (Kd.V_F (Vs_of_R (Kd.R_bound hR)).1) rfl (by simp) (by decide); have HB1 := Aside0.mk hb; clear hR hb)
    refine (may_calls _ _).mono ?_
    rintro y w2 ⟨rfl, hb⟩
    rw [HKM.out]
    have hx2 := pw_cell_below hb hx
    have HB2 := Aside0.mk (HB1.out.trans (hb.mono HB1.out.size))
    have hsz2 := hb.size
    clear hb hx
    go_wp2_with fail
    refine (need_calls B vE vP vD vO vR fd fo e K _ (pb_below H.out HB2.out)).mono ?_
    rw [HE.out]
    rintro y w3 ⟨rfl, hp, hk, hb⟩
    have HP3 := Aside0.mk hp
    have HK3 := Aside0.mk hk
    have HB3 := Aside0.mk hb
    obtain ⟨_, _, _, _, _, _, _, c7, _⟩ := pb_cells hp
    have hx3 : w3.cell? ⟨b, off, none⟩ = some (.string x) := by
      rw [cell_heap (hk.2 b (Nat.lt_of_lt_of_le hbn.2.2.1 hsz2) (fun e => by have := hbn.2.1; have := hB.out; have e' : b = B := e; omega))]
      exact hx2
    clear hp hk hb hx2
    by_cases h0 : E = 0
    · subst h0
      go_wp2_with fail
      go_ret
      exact ⟨rfl, HP3.out, Kept.then_ (Kept.of_below HB2.out _) HK3.out (fun k hk => .inl hk), fun base hb => (HB2.out.mono (Nat.le_trans hb (Nat.le_of_lt hB.out))).trans (HB3.out base hb)⟩
    · have h0b : (E != 0) = true := bne_iff_ne.2 h0
      go_wp2_with fail
      go_ret
      exact ⟨rfl, HP3.out, Kept.then_ (Kept.of_below HB2.out _) HK3.out (fun k hk => .inl hk), fun base hb => (HB2.out.mono (Nat.le_trans hb (Nat.le_of_lt hB.out))).trans (HB3.out base hb)⟩
  · have hK2 : K = false := by
      rw [← hK]
      unfold oneOk
      split
      · exact absurd ⟨_, rfl⟩ hone
      · rfl
    have hne : ((ws.length : Int) == 1) = false := beq_eq_false_iff_ne.2 (fun e => hone (by
      match ws, e with
      | [x], _ => exact ⟨x, rfl⟩
      | [], e => simp at e
      | _ :: _ :: _, e => simp only [List.length_cons] at e; omega))
    subst hK2
    have hE0 : ¬ E = 0 := by
      rw [← HE.out]
      unfold needE
      split
      · decide
      · rename_i h0
        exact fun h1 => h0 ⟨rfl, h1⟩
    have h0b : (E != 0) = true := bne_iff_ne.2 hE0
    clear hK hone
    go_enter Tryz.func77, Tryz.ntmps77
    go_wp2_with (go_at_call 91; refine HWS.out.mono ?_; rintro y w1 ⟨v, rfl, hR, hb⟩; obtain ⟨A, c, rfl⟩ := Kd.R_slice hR; have HB2 := Aside0.mk hb; clear hR hb)
    refine (need_calls B vE vP vD vO vR fd fo e false _ (pb_below H.out HB2.out)).mono ?_
    rw [HE.out]
    rintro y w3 ⟨rfl, hp, hk, hb⟩
    have HP3 := Aside0.mk hp
    have HK3 := Aside0.mk hk
    have HB3 := Aside0.mk hb
    obtain ⟨_, _, _, _, _, _, _, c7, _⟩ := pb_cells hp
    clear hp hk hb
    go_wp2_with fail
    go_ret
    exact ⟨rfl, HP3.out, Kept.then_ (Kept.of_below HB2.out _) HK3.out (fun k hk => .inl hk), fun base hb => (HB2.out.mono (Nat.le_trans hb (Nat.le_of_lt hB.out))).trans (HB3.out base hb)⟩
end Go.Proofs.YtefheailchihaaaGreatDoor.Print

end
section
namespace Go.Proofs.YtefheailchihaaaGreatDoor.Print
open Go.RowKit Go.Lib Go.Shelf Go.Proofs.YtefheailchihaaaGreatDoorW.PrintWords Go.Proofs.YtefheailchihaaaGreatDoorW.PrintLast Go.Proofs.YtefheailchihaaaGreatDoorW.PrintMore
set_option linter.unusedVariables false

/-- A rule: its name, command, pool; deps, pooled. -/
structure S116 where
  f0 : ByteArray
  f1 : ByteArray
  f2 : ByteArray
  f3 : Bool
  f4 : Bool
def z116 : S116 := ⟨⟨#[]⟩, ⟨#[]⟩, ⟨#[]⟩, false, false⟩
def k116 : Kd S116 := Kd.iso (Kd.pair Kd.string (Kd.pair Kd.string (Kd.pair Kd.string (Kd.pair Kd.bool Kd.bool)))) (fun x : S116 => (x.f0, x.f1, x.f2, x.f3, x.f4))
theorem info116 : (Tryz.prog.info? 116).map (fun i => (i.zero, i.size, i.bytes)) = some (some (.agg #[.string ⟨#[]⟩, .string ⟨#[]⟩, .string ⟨#[]⟩, .bool false, .bool false]), 5, 56) := by kernel_rfl
theorem k116_open {w : World} {x : S116} {cs : List Value} (h : k116.K w x cs) : cs = [.string x.f0, .string x.f1, .string x.f2, .bool x.f3, .bool x.f4] := by
  obtain ⟨_, _, rfl, rfl, ⟨_, _, rfl, rfl, ⟨_, _, rfl, rfl, ⟨_, _, rfl, rfl, rfl⟩⟩⟩⟩ := h
  exact rfl
theorem k116_openM {w : World} {base : Nat} {ok : Nat → Prop} {x : S116} {cs : List Value} (h : k116.M w base ok x cs) : cs = [.string x.f0, .string x.f1, .string x.f2, .bool x.f3, .bool x.f4] := by
  obtain ⟨_, _, rfl, rfl, ⟨_, _, rfl, rfl, ⟨_, _, rfl, rfl, ⟨_, _, rfl, rfl, rfl⟩⟩⟩⟩ := h
  exact rfl
theorem k116_mkM (w : World) (base : Nat) (ok : Nat → Prop) (x : S116) : k116.M w base ok x [.string x.f0, .string x.f1, .string x.f2, .bool x.f3, .bool x.f4] := ⟨[.string x.f0], _, rfl, rfl, ⟨[.string x.f1], _, rfl, rfl, ⟨[.string x.f2], _, rfl, rfl, ⟨[.bool x.f3], [.bool x.f4], rfl, rfl, rfl⟩⟩⟩⟩
def rd_T116 (xs : List S116) (i : Int) : S116 := xs.getD i.toNat z116
theorem at_T116 {w : World} {A : Option Addr} {n : Nat} {xs : List S116} (h : Kd.C k116 w A n xs) (i : Int) (h0 : 0 ≤ i) (h1 : i < n) : ∃ ad, A = some ad ∧ w.cell? (ad.add (i.toNat * 5)) = some (.string (rd_T116 xs i).f0) ∧ w.cell? ⟨(ad.add (i.toNat * 5)).block, (ad.add (i.toNat * 5)).off + 1, none⟩ = some (.string (rd_T116 xs i).f1) ∧ w.cell? ⟨(ad.add (i.toNat * 5)).block, (ad.add (i.toNat * 5)).off + 2, none⟩ = some (.string (rd_T116 xs i).f2) ∧ w.cell? ⟨(ad.add (i.toNat * 5)).block, (ad.add (i.toNat * 5)).off + 3, none⟩ = some (.bool (rd_T116 xs i).f3) ∧ w.cell? ⟨(ad.add (i.toNat * 5)).block, (ad.add (i.toNat * 5)).off + 4, none⟩ = some (.bool (rd_T116 xs i).f4) := by
  obtain ⟨ad, c, e, _, hK, hc0⟩ := Kd.C_get h z116 i h0 h1
  have hc : ∀ j u, c[j]? = some u → w.cell? (ad.add (i.toNat * 5 + j)) = some u := hc0
  obtain rfl := k116_open hK
  exact ⟨ad, e, hc 0 _ rfl, by rw [← add_field _ _ 1 (by omega)]; exact hc 1 _ rfl, by rw [← add_field _ _ 2 (by omega)]; exact hc 2 _ rfl, by rw [← add_field _ _ 3 (by omega)]; exact hc 3 _ rfl, by rw [← add_field _ _ 4 (by omega)]; exact hc 4 _ rfl⟩

set_option maxRecDepth 100000 in
theorem find1_116_calls (x : S116) (s : ByteArray) (b : Nat) (w : World) (hb : b < w.heap.size) (hc : w.cell? ⟨b, 0, none⟩ = some (.string s)) :
    Calls Tryz.prog 110 #[.agg #[.string x.f0, .string x.f1, .string x.f2, .bool x.f3, .bool x.f4], .pointer (some ⟨b, 0, none⟩)] w fun e w' => e = .returned (.bool (x.f0.toList == s.toList)) ∧ Below w.heap.size w w' := by
  have hne : b ≠ w.heap.size := by omega
  go_enter Tryz.func110, Tryz.ntmps110
  go_wp2
  go_ret
  exact ⟨rfl, (Below.refl _ _).alloc (Nat.le_refl _) _⟩
theorem rd_at116 (l : List S116) (k : Nat) (h : k < l.length) : rd_T116 l (k : Int) = l[k] := by simp [rd_T116, List.getD_eq_getElem?_getD, h]

set_option maxHeartbeats 1000000 in
set_option maxRecDepth 100000 in
theorem index116_calls (A0 : Option Addr) (c0 : Nat) (l : List S116) (s : ByteArray) (b : Nat) (w : World) (hr : Kd.C k116 w A0 l.length l) (hb : b < w.heap.size) (hc : w.cell? ⟨b, 0, none⟩ = some (.string s)) :
    Calls Tryz.prog 109 #[.slice A0 l.length c0, .func (.func 110) #[] #[.pointer (some ⟨b, 0, none⟩)]] w fun e w' => e = .returned (.int .i64 (idxP (fun x : S116 => x.f0.toList == s.toList) l)) ∧ Below w.heap.size w w' := by
  have HR := Aside0.mk hr
  have HC := Aside0.mk hc
  have hm := C_max hr
  clear hr hc
  have eg : ∀ args w, (callFunc 110 args).run Tryz.prog w = .ok (.enter 110 args) w := enters_of Tryz.func110 (by kernel_rfl) rfl
  generalize hp : (fun x : S116 => x.f0.toList == s.toList) = p
  have HPP := Lib.hid hp
  go_enter Tryz.func109, Tryz.ntmps109
  go_wp2
  go_loopw [8] (fun v8 wr => ∃ k : Nat, v8 = .int .i64 k ∧ k ≤ l.length ∧ Aside0 (firstFrom p (l.drop k) k = idxP p l) ∧ Below w.heap.size w wr) (fun v8 _ => l.length - (intOf v8).toNat)
  case atStart => exact ⟨0, rfl, by omega, ⟨rfl⟩, Below.refl _ _⟩
  case round =>
    obtain ⟨k, rfl, hk, hf, hbw⟩ := hrel
    by_cases hlt : k < l.length
    · obtain ⟨ad, rfl, f0, f1, f2, f3, f4⟩ := at_T116 (Kd.C_below HR.out hbw) (k : Int) (by omega) (by omega)
      have hq := Lib.hid (firstFrom_drop p l k hlt)
      rw [rd_at116 l k hlt] at f0 f1 f2 f3 f4
      simp only [Int.toNat_natCast] at f0 f1 f2 f3 f4
      generalize l[k] = x at *
      have hcl := find1_116_calls x s b wr (Nat.lt_of_lt_of_le hb hbw.size) ((hbw.cell (p := ⟨b, 0, none⟩) hb).trans HC.out)
      rw [show (x.f0.toList == s.toList) = p x from by rw [← HPP.out]] at hcl
      cases hpx : p x
      · rw [hpx] at hcl
        have Hcl := Lib.hid hcl
        clear hcl
        go_wp2_with (first | (go_at_fn 110; refine Hcl.out.mono ?_; rintro e w' ⟨rfl, hb2⟩))
        exact ⟨⟨k + 1, by go_num, by omega, ⟨by rw [← hf.out, hq.out, if_neg (by rw [hpx]; decide)]⟩, bel hbw hb2⟩, by simp [intOf]; omega⟩
      · rw [hpx] at hcl
        have Hcl := Lib.hid hcl
        clear hcl
        go_wp2_with (first | (go_at_fn 110; refine Hcl.out.mono ?_; rintro e w' ⟨rfl, hb2⟩))
        go_ret
        exact ⟨ret_i64 (by rw [← hf.out, hq.out, if_pos hpx]), bel hbw hb2⟩
    · have hd : l.drop k = [] := List.drop_of_length_le (by omega)
      have hq := Lib.hid hd
      clear hd
      go_wp2
      go_ret
      exact ⟨ret_i64 (by rw [← hf.out, hq.out]; rfl), hbw⟩

set_option maxRecDepth 100000 in
theorem pfind_calls (B : Nat) (vE vP vD vO vR fd fo : Value) (e : Int) (A : Option Addr) (c : Nat) (l : List S116) (s : ByteArray) (w : World) (h : Pb w B vE vP vD vO vR fd fo e) (hv : vR = .slice A l.length c) (hC : Kd.C k116 w A l.length l) :
    Calls Tryz.prog 78 #[.pointer (some ⟨B, 0, none⟩), .string s] w fun x w' => x = .returned (.int .i64 (idxP (fun x : S116 => x.f0.toList == s.toList) l)) ∧ Below w.heap.size w w' := by
  have hmf : ∀ (fn : Fn) (first cap : Array Value) (w : World), (Instr.makeFunc fn first cap).run Tryz.prog w = .ok (.func fn first cap) w := fun _ _ _ _ => rfl
  have hB := blk_lt h
  subst hv
  obtain ⟨c0, c1, c2, c3, c4, _, _, _, _⟩ := pb_cells h
  have hne : B ≠ w.heap.size := by omega
  have HA := Aside0.mk ((Below.refl w.heap.size w).alloc (Nat.le_refl _) (.cells #[.string s] 9))
  have HI := Lib.hid (index116_calls A c l s w.heap.size (w.alloc (.cells #[.string s] 9)) (Kd.C_below hC HA.out) (by simp) (by simp))
  clear hC h
  go_enter Tryz.func78, Tryz.ntmps78
  go_wp2_with (go_at_call 109; refine HI.out.mono ?_; rintro x w1 ⟨rfl, hb⟩)
  go_ret
  exact ⟨rfl, bel HA.out hb⟩

set_option maxRecDepth 100000 in
theorem find1_44_calls (x : S44) (s : ByteArray) (b : Nat) (w : World) (hb : b < w.heap.size) (hc : w.cell? ⟨b, 0, none⟩ = some (.string s)) :
    Calls Tryz.prog 112 #[.agg #[.string x.f0, .int .i64 x.f1], .pointer (some ⟨b, 0, none⟩)] w fun e w' => e = .returned (.bool (x.f0.toList == s.toList)) ∧ Below w.heap.size w w' := by
  have hne : b ≠ w.heap.size := by omega
  go_enter Tryz.func112, Tryz.ntmps112
  go_wp2
  go_ret
  exact ⟨rfl, (Below.refl _ _).alloc (Nat.le_refl _) _⟩
theorem rd_at44 (l : List S44) (k : Nat) (h : k < l.length) : rd_T44 l (k : Int) = l[k] := by simp [rd_T44, List.getD_eq_getElem?_getD, h]

set_option maxHeartbeats 1000000 in
set_option maxRecDepth 100000 in
theorem index44_calls (A0 : Option Addr) (c0 : Nat) (l : List S44) (s : ByteArray) (b : Nat) (w : World) (hr : Kd.C k44 w A0 l.length l) (hb : b < w.heap.size) (hc : w.cell? ⟨b, 0, none⟩ = some (.string s)) :
    Calls Tryz.prog 111 #[.slice A0 l.length c0, .func (.func 112) #[] #[.pointer (some ⟨b, 0, none⟩)]] w fun e w' => e = .returned (.int .i64 (idxP (fun x : S44 => x.f0.toList == s.toList) l)) ∧ Below w.heap.size w w' := by
  have HR := Aside0.mk hr
  have HC := Aside0.mk hc
  have hm := C_max hr
  clear hr hc
  have eg : ∀ args w, (callFunc 112 args).run Tryz.prog w = .ok (.enter 112 args) w := enters_of Tryz.func112 (by kernel_rfl) rfl
  generalize hp : (fun x : S44 => x.f0.toList == s.toList) = p
  have HPP := Lib.hid hp
  go_enter Tryz.func111, Tryz.ntmps111
  go_wp2
  go_loopw [8] (fun v8 wr => ∃ k : Nat, v8 = .int .i64 k ∧ k ≤ l.length ∧ Aside0 (firstFrom p (l.drop k) k = idxP p l) ∧ Below w.heap.size w wr) (fun v8 _ => l.length - (intOf v8).toNat)
  case atStart => exact ⟨0, rfl, by omega, ⟨rfl⟩, Below.refl _ _⟩
  case round =>
    obtain ⟨k, rfl, hk, hf, hbw⟩ := hrel
    by_cases hlt : k < l.length
    · obtain ⟨ad, rfl, f0, f1⟩ := at_T44 (Kd.C_below HR.out hbw) (k : Int) (by omega) (by omega)
      have hq := Lib.hid (firstFrom_drop p l k hlt)
      rw [rd_at44 l k hlt] at f0 f1
      simp only [Int.toNat_natCast] at f0 f1
      generalize l[k] = x at *
      have hcl := find1_44_calls x s b wr (Nat.lt_of_lt_of_le hb hbw.size) ((hbw.cell (p := ⟨b, 0, none⟩) hb).trans HC.out)
      rw [show (x.f0.toList == s.toList) = p x from by rw [← HPP.out]] at hcl
      cases hpx : p x
      · rw [hpx] at hcl
        have Hcl := Lib.hid hcl
        clear hcl
        go_wp2_with (first | (go_at_fn 112; refine Hcl.out.mono ?_; rintro e w' ⟨rfl, hb2⟩))
        exact ⟨⟨k + 1, by go_num, by omega, ⟨by rw [← hf.out, hq.out, if_neg (by rw [hpx]; decide)]⟩, bel hbw hb2⟩, by simp [intOf]; omega⟩
      · rw [hpx] at hcl
        have Hcl := Lib.hid hcl
        clear hcl
        go_wp2_with (first | (go_at_fn 112; refine Hcl.out.mono ?_; rintro e w' ⟨rfl, hb2⟩))
        go_ret
        exact ⟨ret_i64 (by rw [← hf.out, hq.out, if_pos hpx]), bel hbw hb2⟩
    · have hd : l.drop k = [] := List.drop_of_length_le (by omega)
      have hq := Lib.hid hd
      clear hd
      go_wp2
      go_ret
      exact ⟨ret_i64 (by rw [← hf.out, hq.out]; rfl), hbw⟩

set_option maxRecDepth 100000 in
theorem ppool_calls (B : Nat) (vE vP vD vO vR fd fo : Value) (e : Int) (A : Option Addr) (c : Nat) (l : List S44) (s : ByteArray) (w : World) (h : Pb w B vE vP vD vO vR fd fo e) (hv : vP = .slice A l.length c) (hC : Kd.C k44 w A l.length l) :
    Calls Tryz.prog 81 #[.pointer (some ⟨B, 0, none⟩), .string s] w fun x w' => x = .returned (.int .i64 (idxP (fun x : S44 => x.f0.toList == s.toList) l)) ∧ Below w.heap.size w w' := by
  have hmf : ∀ (fn : Fn) (first cap : Array Value) (w : World), (Instr.makeFunc fn first cap).run Tryz.prog w = .ok (.func fn first cap) w := fun _ _ _ _ => rfl
  have hB := blk_lt h
  subst hv
  obtain ⟨c0, c1, c2, c3, c4, _, _, _, _⟩ := pb_cells h
  have hne : B ≠ w.heap.size := by omega
  have HA := Aside0.mk ((Below.refl w.heap.size w).alloc (Nat.le_refl _) (.cells #[.string s] 9))
  have HI := Lib.hid (index44_calls A c l s w.heap.size (w.alloc (.cells #[.string s] 9)) (Kd.C_below hC HA.out) (by simp) (by simp))
  clear hC h
  go_enter Tryz.func81, Tryz.ntmps81
  go_wp2_with (go_at_call 111; refine HI.out.mono ?_; rintro x w1 ⟨rfl, hb⟩)
  go_ret
  exact ⟨rfl, bel HA.out hb⟩
end Go.Proofs.YtefheailchihaaaGreatDoor.Print

end
section
namespace Go.Proofs.YtefheailchihaaaGreatDoor.Print
open Go.RowKit Go.Lib Go.Shelf Go.Proofs.YtefheailchihaaaGreatDoorW.PrintWords Go.Proofs.YtefheailchihaaaGreatDoorW.PrintLast Go.Proofs.YtefheailchihaaaGreatDoorW.PrintMore
set_option linter.unusedVariables false

def cleanOut (xs : List ByteArray) : List ByteArray := xs.map fun x => (cleanB x).1
def cleanErr (e : Int) (xs : List ByteArray) : Int := xs.foldl (fun e x => tookE e (cleanB x).2) e

theorem pb_grown {w w1 : World} {B : Nat} {vE vP vD vO vR fd fo : Value} {e : Int} {row : Option Nat} (h : Pb w B vE vP vD vO vR fd fo e) (hg : w.grownBy w1 row) (hne : some B ≠ row) : Pb w1 B vE vP vD vO vR fd fo e := blk_grown h hg hne

set_option maxHeartbeats 4000000 in
set_option maxRecDepth 100000 in
theorem pclean_calls (B : Nat) (vE vP vD vO vR fd fo : Value) (e : Int) (v : Value) (xs : List ByteArray) (hxs : ∀ x ∈ xs, x.size ≤ 1048576) (hl : xs.length ≤ 1048577) (w : World) (h : Pb w B vE vP vD vO vR fd fo e) (hV : Vs w (fun k => k ≠ B) v xs) :
    Calls Tryz.prog 87 #[.pointer (some ⟨B, 0, none⟩), v] w fun x w' => ∃ v' : Value, x = .returned v' ∧ Kd.R Kd.string 9 w' w.heap.size (fun _ => True) v' (cleanOut xs) ∧ Pb w' B vE vP vD vO vR fd fo (cleanErr e xs) ∧ Kept w w' (fun k => k = B) ∧ ∀ base, base ≤ B → Below base w w' := by
  obtain ⟨A, c, rfl, hlc, hC⟩ := Vs_slice hV
  have hB := blk_lt h
  have HV := Lib.hid hV
  have H := Lib.hid h
  have HXS := Lib.hid hxs
  clear hV hC h hxs
  go_enter Tryz.func87, Tryz.ntmps87
  go_wp2
  go_loopw [5, 7, 8, 9, 12] (fun v5 v7 v8 v9 v12 wr => ∃ (k : Nat), v12 = .int .i64 k ∧ k ≤ xs.length ∧ Aside0 (Kd.R Kd.string 9 wr w.heap.size (fun _ => True) v5 (cleanOut (xs.take k))) ∧ Aside0 (Pb wr B vE vP vD vO vR fd fo (cleanErr e (xs.take k))) ∧ Aside0 (Kept w wr (fun k => k = B)) ∧ Aside0 (∀ base, base ≤ B → Below base w wr)) (fun v5 v7 v8 v9 v12 _ => xs.length - (intOf v12).toNat)
  case atStart => exact ⟨0, rfl, by omega, ⟨Kd.R_nil _ _ _ _ _⟩, ⟨H.out⟩, ⟨Kept.refl _ _⟩, ⟨fun _ _ => Below.refl _ _⟩⟩
  case round =>
    obtain ⟨k, rfl, hk, HR, HP, HK, HB⟩ := hrel
    by_cases hlt : k < xs.length
    · have hV2 := Vs_kept HV.out HK.out (fun k h1 h2 => h1 h2)
      obtain ⟨ad, rfl, f0⟩ := Kd.at_string (vs_idx hV2).2 (k : Int) (by omega) (by omega)
      rw [rdOf_at xs k hlt] at f0
      simp only [Int.toNat_natCast] at f0
      have hx := HXS.out _ (List.getElem_mem hlt)
      have ht1 : cleanOut (xs.take (k + 1)) = cleanOut (xs.take k) ++ [(cleanB xs[k]).1] := by
        unfold cleanOut; rw [List.take_succ_eq_append_getElem hlt, List.map_append]; rfl
      have ht2 : cleanErr e (xs.take (k + 1)) = tookE (cleanErr e (xs.take k)) (cleanB xs[k]).2 := by
        unfold cleanErr; rw [List.take_succ_eq_append_getElem hlt, List.foldl_append]; rfl
      have HT1 := Lib.hid ht1
      have HT2 := Lib.hid ht2
      clear ht1 ht2 hV2
      have hlen : (cleanOut (xs.take k)).length ≤ k := by unfold cleanOut; rw [List.length_map, List.length_take]; exact Nat.min_le_left _ _
      generalize cleanOut (xs.take k) = out at *
      generalize cleanErr e (xs.take k) = ek at *
      generalize xs[k] = x at *
      obtain ⟨A5, c5, rfl, _, _⟩ := Kd.R_reads HR.out
      generalize hcx : cleanB x = cx at *
      have HCX := Lib.hid hcx
      obtain ⟨t, e2⟩ := cx
      simp only at HT1 HT2
      clear hcx
      have hwz := HK.out.1
      go_wp2_with fail
      refine (clean_calls x hx _).mono ?_
      rw [HCX.out]
      rintro y w1 ⟨rfl, hb1⟩
      have HR1 := Aside0.mk (Kd.R_below HR.out hb1)
      have HP1 := Aside0.mk (pb_below HP.out hb1)
      have HK1 := Aside0.mk (HK.out.below hb1)
      have HB1 := Aside0.mk (fun base (hb : base ≤ B) => (HB.out base hb).trans (hb1.mono (by omega)))
      clear hb1
      go_wp2_with fail
      refine (took_calls B vE vP vD vO vR fd fo ek e2 _ HP1.out).mono ?_
      rintro y w2 ⟨rfl, hp2, hk2, hb2⟩
      have HP2 := Aside0.mk hp2
      have HR2 := Aside0.mk (Kd.R_mono (ok' := fun _ => True) (Kd.R_kept (Kd.R_bound HR1.out) hk2 (fun k h2 h3 => by have := h2.2.1; have h3' : k = B := h3; omega)) (fun _ _ => trivial))
      have HK2 := Aside0.mk (Kept.then_ HK1.out hk2 (fun k hk => .inl hk))
      have HB2 := Aside0.mk (fun base (hb : base ≤ B) => (HB1.out base hb).trans (hb2 base hb))
      have hwz2 := HK2.out.1
      clear hp2 hk2 hb2
      go_wp2_with ((with_reducible refine gate_builtin (b := .append) (xs := #[.tmp 24, .tmp 26]) rfl ?_); at_builtin; refine Kd.R_append Kd.string (w0 := w2) w.heap.size rfl (.tmp 24) (.tmp 26) 24 9 (.string ⟨#[]⟩) 16 rfl Tryz.underlying24 info9 rfl (by decide) (by omega) (.slice A5 out.length c5) out t [.string t] (fun _ => True) (fun _ => False) rfl rfl rfl (fun _ hk => hk.elim) (fun _ _ => trivial) HR2.out (Below.refl _ _) hwz2 ?aL ?_; (case aL => omega); intro v5 w5 ho5 hb5 hg hat; clear hat; have HO5 := Aside0.mk ho5; have HB5 := Aside0.mk hb5; have HG5 := Aside0.mk hg; clear ho5 hb5 hg)
      have hrow : ∀ j, (Value.slice A5 out.length c5).ownBlock = some j → w.heap.size ≤ j := Kd.R_base HR2.out
      refine ⟨⟨k + 1, by go_num, by omega, ⟨by rw [HT1.out]; exact HO5.out⟩, ⟨by rw [HT2.out]; exact pb_grown HP2.out HG5.out (fun e => by have := hrow B e.symm; omega)⟩, ⟨Kept.of_grown HG5.out HK2.out (fun j hj => .inr (hrow j hj))⟩, ⟨fun base hb => (HB2.out base hb).trans (HB5.out.mono (by omega))⟩⟩, by simp [intOf]; omega⟩
    · obtain rfl : k = xs.length := by omega
      have HT : Hid (xs.take xs.length = xs) := Lib.hid (List.take_length)
      go_wp2_with fail
      go_ret
      have h1 := HR.out
      have h2 := HP.out
      rw [HT.out] at h1 h2
      exact ⟨_, rfl, h1, h2, HK.out, HB.out⟩
end Go.Proofs.YtefheailchihaaaGreatDoor.Print

end
section
namespace Go.Proofs.YtefheailchihaaaGreatDoor.Print
open Go.RowKit Go.Lib Go.Shelf Go.Proofs.YtefheailchihaaaGreatDoorW.PrintWords Go.Proofs.YtefheailchihaaaGreatDoorW.PrintLast Go.Proofs.YtefheailchihaaaGreatDoorW.PrintMore
set_option linter.unusedVariables false

def cutAt (s : ByteArray) : Int := Lib.indexByte s.data.toList 36
def cutStep (s : ByteArray) : ByteArray × ByteArray × Bool := if 0 ≤ cutAt s then (s.extract 0 (cutAt s).toNat, s.extract ((cutAt s).toNat + 1) s.size, true) else (s, ⟨#[]⟩, false)
theorem cutAt_lt (s : ByteArray) (h : 0 ≤ cutAt s) : ∃ i : Nat, cutAt s = i ∧ i < s.size := by
  obtain ⟨i, hi⟩ := Int.eq_ofNat_of_zero_le h
  refine ⟨i, hi, ?_⟩
  have := (Lib.indexByte_some (show Lib.indexByte s.data.toList 36 = (i : Nat) from hi)).1
  rw [Lib.size_eq]
  exact (List.getElem?_eq_some_iff.mp this).1

set_option maxHeartbeats 1000000 in
set_option maxRecDepth 100000 in
theorem cut59_calls (s : ByteArray) (hs : s.size ≤ 9223372036854775807) (w : World) :
    Calls Tryz.prog 67 #[.string s, .string ⟨#[36]⟩] w fun e w' => e = .returned (.tuple #[.string (cutStep s).1, .string (cutStep s).2.1, .bool (cutStep s).2.2]) ∧ ∃ n, w' = w.drewN n := by
  by_cases h : 0 ≤ cutAt s
  · obtain ⟨i, hi, hlt⟩ := cutAt_lt s h
    have hd : Hid (cutStep s = (s.extract 0 i, s.extract (i + 1) s.size, true)) := by
      unfold cutStep
      rw [if_pos h, hi]
      exact Lib.hid rfl
    have HI : Hid (Lib.indexByte s.data.toList 36 = (i : Int)) := Lib.hid hi
    clear h hi
    have h0 : (0 : Int) ≤ i := by omega
    have h1 : (i : Int) ≤ s.size := by omega
    have h2 : (0 : Int) ≤ (i : Int) + 1 := by omega
    have h3 : (i : Int) + 1 ≤ s.size := by omega
    have h4 : IntKind.i64.wrap ((i : Int) + 1) = (i : Int) + 1 := IntWalk.i64_in _ (by omega)
    have h5 : ((i : Int) + 1).toNat = i + 1 := by omega
    go_enter Tryz.func67, Tryz.ntmps67
    go_wp2_with fail
    refine (Tryz.stringslite_Index_one s 36 _).mono ?_
    rintro e w' ⟨rfl, rfl⟩
    rw [HI.out]
    go_wp2_with fail
    go_quiet (fail)
    go_wp2_with fail
    refine bodyPost_ret (v := .tuple #[.string (s.extract 0 i), .string (s.extract (i + 1) s.size), .bool true]) (by simp [results, Tryz.results67, go_sem]) rfl ?_
    rw [hd.out]
    exact ⟨rfl, _, rfl⟩
  · have hd : Hid (cutStep s = (s, ⟨#[]⟩, false)) := by
      unfold cutStep
      rw [if_neg h]
      exact Lib.hid rfl
    have HI : Hid (Lib.indexByte s.data.toList 36 = -1) := Lib.hid (by have := Lib.indexByte_ge s.data.toList 36; unfold cutAt at h; omega)
    clear h
    go_enter Tryz.func67, Tryz.ntmps67
    go_wp2_with fail
    refine (Tryz.stringslite_Index_one s 36 _).mono ?_
    rintro e w' ⟨rfl, rfl⟩
    rw [HI.out]
    go_wp2_with fail
    refine bodyPost_ret (v := .tuple #[.string s, .string ⟨#[]⟩, .bool false]) (by simp [results, Tryz.results67, go_sem]) rfl ?_
    rw [hd.out]
    exact ⟨rfl, 0, rfl⟩

set_option maxHeartbeats 1000000 in
theorem cut49_calls (s : ByteArray) (hs : s.size ≤ 9223372036854775807) (w : World) :
    Calls Tryz.prog 36 #[.string s, .string ⟨#[36]⟩] w fun e w' => e = .returned (.tuple #[.string (cutStep s).1, .string (cutStep s).2.1, .bool (cutStep s).2.2]) ∧ ∃ n, w' = w.drewN n := by
  obtain ⟨⟨t1, t2, t3⟩, ht⟩ : ∃ t, cutStep s = t := ⟨_, rfl⟩
  have HT := Lib.hid ht
  clear ht
  go_enter Tryz.func36, Tryz.ntmps36
  go_wp2_with fail
  refine (cut59_calls s hs _).mono ?_
  rw [HT.out]
  rintro e w' ⟨rfl, n, rfl⟩
  go_wp2_with fail
  refine bodyPost_ret (v := .tuple #[.string t1, .string t2, .bool t3]) (by simp [results, Tryz.results36, go_sem]) rfl ?_
  rw [HT.out]
  exact ⟨rfl, _, rfl⟩
end Go.Proofs.YtefheailchihaaaGreatDoor.Print

namespace Go.Proofs.YtefheailchihaaaGreatDoor.Print
open Go.RowKit Go.Lib Go.Shelf Go.Proofs.YtefheailchihaaaGreatDoorW.PrintWords Go.Proofs.YtefheailchihaaaGreatDoorW.PrintLast Go.Proofs.YtefheailchihaaaGreatDoorW.PrintMore

def textIf (out : List S162) (t : ByteArray) : List S162 := if 1 ≤ t.size then addText out t else out
def cutRound (rest : ByteArray) (out : List S162) : ByteArray × List S162 × Bool :=
  if (cutStep rest).2.2 = true then signStep (cutStep rest).2.1 (textIf out (cutStep rest).1) else ((cutStep rest).2.1, textIf out (cutStep rest).1, false)
def cutGo : Nat → ByteArray → List S162 → Bool → List S162 × Bool
  | 0, _, out, bad => (out, bad)
  | k + 1, rest, out, bad => if 1 ≤ rest.size ∧ bad = false then cutGo k (cutRound rest out).1 (cutRound rest out).2.1 (cutRound rest out).2.2 else (out, bad)

/-- Pieces so few and so short that they, and what is still to cut, are at most N. -/
def Few (N m : Nat) (out : List S162) : Prop := out.length + m ≤ N ∧ ∀ x ∈ out, x.f1.size + m ≤ N

theorem trimP_le (s e : ByteArray) : (trimP s e).size ≤ s.size := by
  unfold trimP
  rw [Lib.size_eq, Lib.size_eq]
  simp only [Lib.trimPrefix]
  split
  · simp
  · simp
theorem few_le {N m m' : Nat} {out : List S162} (h : Few N m out) (hm : m' ≤ m) : Few N m' out :=
  ⟨by have := h.1; omega, fun x hx => by have := h.2 x hx; omega⟩
theorem rd57_mem (out : List S162) (i : Nat) (hi : i < out.length) : rd_T162 out (i : Int) ∈ out := by
  have : rd_T162 out (i : Int) = out[i] := by simp [rd_T162, hi]
  rw [this]
  exact List.getElem_mem hi
theorem few_last {N m : Nat} {out : List S162} (h : Few N m out) (h0 : 0 < out.length) : (rd_T162 out ((out.length - 1 : Nat) : Int)).f1.size + m ≤ N := h.2 _ (rd57_mem out _ (by omega))
theorem few_text {N m m' : Nat} {out : List S162} (t : ByteArray) (h : Few N m out) (ht : 1 ≤ t.size) (hm : t.size + m' ≤ m) : Few N m' (addText out t) := by
  have h1 := h.1
  unfold addText
  split
  · rename_i hc
    refine ⟨by rw [List.length_set]; omega, fun x hx => ?_⟩
    rcases List.mem_or_eq_of_mem_set hx with hx | rfl
    · have := h.2 x hx; omega
    · have := few_last h hc.1
      simp only [ByteArray.size_append]
      omega
  · refine ⟨by simp; omega, fun x hx => ?_⟩
    rcases List.mem_append.mp hx with hx | hx
    · have := h.2 x hx; omega
    · simp at hx
      subst hx
      simp only []
      omega
theorem few_textIf {N m m' : Nat} {out : List S162} (t : ByteArray) (h : Few N m out) (hm : t.size + m' ≤ m) : Few N m' (textIf out t) := by
  unfold textIf
  split
  · rename_i ht
    exact few_text t h ht hm
  · exact few_le h (by omega)
theorem few_var {N : Nat} {out : List S162} (rest e : ByteArray) (h : Few N rest.size out) : Few N (varStep rest out e).1.size (varStep rest out e).2.1 ∧ (varStep rest out e).1.size ≤ rest.size := by
  have hv := varLen_le rest
  have hw : (wordOf rest).size = varLen rest := by simp [wordOf]; omega
  have hr : (restOf rest).size = rest.size - varLen rest := by simp [restOf]
  have ht := trimP_le (restOf rest) e
  unfold varStep
  split
  · rename_i hc
    simp only [Bool.and_eq_true, decide_eq_true_eq] at hc
    refine ⟨⟨?_, fun x hx => ?_⟩, by simp only []; omega⟩
    · have := h.1
      simp only [List.length_append, List.length_singleton]
      omega
    · rcases List.mem_append.mp hx with hx | hx
      · have := h.2 x hx
        simp only []
        omega
      · simp at hx
        subst hx
        have := h.1
        simp only []
        omega
  · exact ⟨few_le h (by simp only []; omega), by simp only []; omega⟩
theorem few_sign {N : Nat} {out : List S162} (rest : ByteArray) (h : Few N rest.size out) : Few N (signStep rest out).1.size (signStep rest out).2.1 ∧ (signStep rest out).1.size ≤ rest.size := by
  unfold signStep
  split
  · rename_i h1
    have e1 : (rest.extract 1 rest.size).size = rest.size - 1 := by simp
    have e0 : (rest.extract 0 1).size = 1 := by simp; omega
    split
    · exact ⟨few_text _ h (by omega) (by simp only []; omega), by simp only []; omega⟩
    · split
      · have := few_var (rest.extract 1 rest.size) ⟨#[125]⟩ (few_le h (by omega))
        exact ⟨this.1, by omega⟩
      · exact few_var rest _ h
  · exact few_var rest _ h
theorem cutStep_size (s : ByteArray) : (cutStep s).1.size + (cutStep s).2.1.size ≤ s.size ∧ (1 ≤ s.size → (cutStep s).2.1.size < s.size) := by
  unfold cutStep
  split
  · rename_i h
    obtain ⟨i, hi, hlt⟩ := cutAt_lt s h
    rw [hi]
    have e1 : (s.extract 0 i).size = i := by simp; omega
    have e2 : (s.extract (i + 1) s.size).size = s.size - (i + 1) := by simp
    simp only [Int.toNat_natCast, e1, e2]
    omega
  · have e : (⟨#[]⟩ : ByteArray).size = 0 := rfl
    simp only [e]
    omega
theorem few_mid {N : Nat} {out : List S162} (rest : ByteArray) (h : Few N rest.size out) : Few N (cutStep rest).2.1.size (textIf out (cutStep rest).1) :=
  few_textIf _ h (cutStep_size rest).1
theorem few_round {N : Nat} {out : List S162} (rest : ByteArray) (h : Few N rest.size out) : Few N (cutRound rest out).1.size (cutRound rest out).2.1 ∧ (cutRound rest out).1.size ≤ (cutStep rest).2.1.size := by
  unfold cutRound
  split
  · exact few_sign _ (few_mid rest h)
  · exact ⟨few_mid rest h, Nat.le_refl _⟩

/-- What pieces.Cut answers. -/
def cutOf (s : ByteArray) : List S162 × Int :=
  if plainB s 2048 = true then (if (cutGo s.size s [] false).2 = true then ([], 300) else ((cutGo s.size s [] false).1, 0)) else ([], 300)
end Go.Proofs.YtefheailchihaaaGreatDoor.Print

namespace Go.Proofs.YtefheailchihaaaGreatDoor.Print
open Go.RowKit Go.Lib Go.Shelf Go.Proofs.YtefheailchihaaaGreatDoorW.PrintWords Go.Proofs.YtefheailchihaaaGreatDoorW.PrintLast Go.Proofs.YtefheailchihaaaGreatDoorW.PrintMore
set_option linter.unusedVariables false

def szOf : Value → Nat
  | .string s => s.size
  | _ => 2049
theorem st_drewN {B g : Nat} {w : World} {rest : ByteArray} {out : List S162} {bad : Bool} (h : St B g w rest out bad) (n : Nat) : St B g (w.drewN n) rest out bad := by
  obtain ⟨v, hb, hB, hR⟩ := h
  exact ⟨v, blk_drewN hb n, hB, Kd.R_drewN hR n⟩
theorem st_rest {B g : Nat} {w : World} {rest : ByteArray} {out : List S162} {bad : Bool} (h : St B g w rest out bad) (t : ByteArray) : St B g (w.setCell ⟨g, 0, none⟩ (.string t)) t out bad := by
  obtain ⟨v, hb, hB, hR⟩ := h
  exact ⟨v, blk_put hb 0 _ rfl, hB, Kd.R_far (p := ⟨g, 0, none⟩) hR (fun _ hk => hk) _⟩
theorem st_below {B g : Nat} {w : World} {rest : ByteArray} {out : List S162} {bad : Bool} (h : St B g w rest out bad) : ∃ v, w.cell? ⟨g, 0, none⟩ = some (.string rest) ∧ w.cell? ⟨g, 1, none⟩ = some v ∧ w.cell? ⟨g, 2, none⟩ = some (.bool bad) ∧ w.frozen? ⟨g, 0, none⟩ = false ∧ w.frozen? ⟨g, 1, none⟩ = false ∧ w.frozen? ⟨g, 2, none⟩ = false ∧ B ≤ g ∧ Kd.R k162 162 w B (fun k => k ≠ g) v out := by
  obtain ⟨v, hb, hB, hR⟩ := h
  obtain ⟨a, b, c, d, e, f⟩ := st_cells (B := B) (out := out) hb
  exact ⟨v, a, b, c, d, e, f, hB, hR⟩
theorem cutGo_next {k : Nat} {rest : ByteArray} {out : List S162} {F : List S162 × Bool} (h : cutGo k rest out false = F) (h1 : 1 ≤ rest.size) (hk : rest.size ≤ k) : cutGo (k - 1) (cutRound rest out).1 (cutRound rest out).2.1 (cutRound rest out).2.2 = F := by
  obtain ⟨j, rfl⟩ : ∃ j, k = j + 1 := ⟨k - 1, by omega⟩
  rw [← h]
  simp [cutGo, h1]
theorem cutGo_done {k : Nat} {rest : ByteArray} {out : List S162} {bad : Bool} {F : List S162 × Bool} (h : cutGo k rest out bad = F) (h1 : ¬ (1 ≤ rest.size ∧ bad = false)) : F = (out, bad) := by
  rw [← h]
  cases k with
  | zero => rfl
  | succ k => simp only [cutGo]; rw [if_neg h1]

def Rel (w : World) (F : List S162 × Bool) (v6 : Value) (wr : World) : Prop :=
  ∃ (k : Nat) (rest : ByteArray) (out : List S162) (bad : Bool), St w.heap.size w.heap.size wr rest out bad ∧ Below w.heap.size w wr ∧ Few 2048 rest.size out ∧ rest.size ≤ k ∧ cutGo k rest out bad = F ∧ rest.size ≤ szOf v6
theorem rel_next {w wr : World} {F : List S162 × Bool} {k : Nat} {rest : ByteArray} {out : List S162} (h : cutGo k rest out false = F) (h1 : 1 ≤ rest.size) (hk : rest.size ≤ k) (hf : Few 2048 rest.size out)
    (hs : St w.heap.size w.heap.size wr (cutRound rest out).1 (cutRound rest out).2.1 (cutRound rest out).2.2) (hb : Below w.heap.size w wr) : Rel w F (.string (cutStep rest).2.1) wr := by
  have hr := few_round rest hf
  have hc := (cutStep_size rest).2 h1
  exact ⟨k - 1, _, _, _, hs, hb, hr.1, by omega, cutGo_next h h1 hk, hr.2⟩

set_option maxHeartbeats 4000000 in
set_option maxRecDepth 100000 in
theorem cut35_calls (s : ByteArray) (hs : s.size ≤ 9223372036854775807) (w : World) :
    Calls Tryz.prog 121 #[.string s] w fun e w' => ∃ v : Value, e = .returned (.tuple #[v, .int .i64 (cutOf s).2]) ∧ Kd.R k162 162 w' w.heap.size (fun _ => True) v (cutOf s).1 ∧ Below w.heap.size w w' := by
  cases hp : plainB s 2048
  · have hd : Hid (cutOf s = ([], 300)) := by
      unfold cutOf
      rw [if_neg (by rw [hp]; decide)]
      exact Lib.hid rfl
    have HP := Lib.hid hp
    clear hp
    go_enter Tryz.func121, Tryz.ntmps121
    go_wp2_with fail
    refine (plain_calls s 2048 _ hs).mono ?_
    rintro e w' ⟨rfl, rfl⟩
    rw [HP.out]
    go_wp2_with fail
    refine bodyPost_ret (v := .tuple #[.slice none 0 0, .int .i64 300]) (by simp [results, Tryz.results121, go_sem]) rfl ?_
    rw [hd.out]
    exact ⟨_, rfl, Kd.R_nil _ _ _ _ _, Below.refl _ _⟩
  · have h48 : s.size ≤ 2048 := by
      unfold plainB at hp
      simp at hp
      omega
    obtain ⟨F, hF⟩ : ∃ F, cutGo s.size s [] false = F := ⟨_, rfl⟩
    have hd : Hid (cutOf s = if F.2 = true then ([], 300) else (F.1, 0)) := by
      unfold cutOf
      rw [if_pos hp, hF]
      exact Lib.hid rfl
    have HP := Lib.hid hp
    have HF := Aside0.mk hF
    clear hp hF
    go_enter Tryz.func121, Tryz.ntmps121
    go_wp2_with fail
    refine (plain_calls s 2048 _ hs).mono ?_
    rintro e w' ⟨rfl, rfl⟩
    rw [HP.out]
    go_wp2_with fail
    go_loopw [5, 6, 7] (fun v5 v6 v7 wr => Rel w F v6 wr) (fun v5 v6 v7 _ => szOf v6)
    case atStart =>
      exact ⟨s.size, s, [], false, ⟨.slice none 0 0, blk_new _ _, Nat.le_refl _, Kd.R_nil _ _ _ _ _⟩, (Below.refl _ _).alloc (Nat.le_refl _) _, ⟨by simp; omega, fun x hx => by simp at hx⟩, Nat.le_refl _, HF.out, by show s.size ≤ 2049; omega⟩
    case round =>
      obtain ⟨k, rest, out, bad, hst, hbel, hfew, hk, hgo, hsz⟩ := hrel
      obtain ⟨v, c0, c1, c2, f0, f1, f2, -, hR⟩ := st_below hst
      have HST := Aside0.mk hst
      have HBEL := Aside0.mk hbel
      have HFEW := Aside0.mk hfew
      have HGO := Aside0.mk hgo
      have HR := Aside0.mk hR
      have HSZ := Aside0.mk hsz
      have hmax : rest.size ≤ 2048 := by have := hfew.1; omega
      clear hst hbel hfew hgo hR hsz HF
      by_cases h1 : 1 ≤ rest.size
      · have hie : rest.toList.isEmpty = false := by simpa using size_some h1
        have hn : ¬ rest.toList = [] := size_some h1
        have HIE := Lib.hid hie
        clear hie
        cases bad
        · have hlt := (cutStep_size rest).2 h1
          have hNX := Lib.hid (fun wr hs hb => rel_next (w := w) (wr := wr) HGO.out h1 hk HFEW.out hs hb)
          have hfm := few_mid rest HFEW.out
          have hmid := Lib.hid hfm
          have hle := (cutStep_size rest).1
          have hzz : Hid (0 < out.length → (rd_T162 out ((out.length - 1 : Nat) : Int)).f1.size + (cutStep rest).1.size ≤ 9223372036854775807) := Lib.hid fun h0 => by
            have := few_last HFEW.out h0
            omega
          have hol : out.length < 5864062014805 := by have := HFEW.out.1; omega
          have hm2 : (cutStep rest).2.1.size ≤ 2048 := by omega
          have hcr : Hid (cutRound rest out = if (cutStep rest).2.2 = true then signStep (cutStep rest).2.1 (textIf out (cutStep rest).1) else ((cutStep rest).2.1, textIf out (cutStep rest).1, false)) := rfl
          clear hfm hle
          obtain ⟨⟨t1, t2, t3⟩, ht⟩ : ∃ t, cutStep rest = t := ⟨_, rfl⟩
          rw [ht] at hlt hNX hmid hzz hm2 hcr
          have HT := Lib.hid ht
          clear ht
          simp only [] at hlt hm2
          have hlt6 : t2.size < szOf u6 := by have := HSZ.out; omega
          clear HSZ
          go_wp2_with fail
          refine (cut49_calls rest (by omega) _).mono ?_
          rintro e w' ⟨rfl, nq, rfl⟩
          rw [HT.out]
          have hst2 := st_rest (st_drewN HST.out nq) t2
          have HST2 := Aside0.mk hst2
          have HB2 := Aside0.mk ((pw_below_drewN HBEL.out nq).setCell (p := ⟨w.heap.size, 0, none⟩) (Nat.le_refl _) (.string t2))
          clear hst2
          have hti : Hid (textIf out t1 = if 1 ≤ t1.size then addText out t1 else out) := rfl
          by_cases ht1 : 1 ≤ t1.size
          · have hn1 : ¬ t1.toList = [] := size_some ht1
            have HNE : Hid (¬ ((!t1.toList.isEmpty) = false)) := Lib.hid (by simpa using hn1)
            rw [if_pos ht1] at hti
            rw [hti.out] at hmid hcr
            have hmf := hmid.out
            have hol2 : (addText out t1).length < 5864062014805 := by have := hmf.1; omega
            have hz2 : Hid (0 < (addText out t1).length → (rd_T162 (addText out t1) (((addText out t1).length - 1 : Nat) : Int)).f1.size < 9223372036854775807) := Lib.hid fun h0 => by
              have := few_last hmf h0
              omega
            clear hmf
            cases t3
            · rw [if_neg (by decide)] at hcr
              go_wp2_with fail
              refine (text_calls w.heap.size w.heap.size t2 out false t1 _ HST2.out hol hzz.out).mono ?_
              rintro e w3 ⟨rfl, hst3, hb3⟩
              have HST3 := Aside0.mk hst3
              have HB3 := Aside0.mk (HB2.out.trans hb3)
              clear hst3 hb3
              go_wp2_with fail
              exact ⟨hNX.out _ (by rw [hcr.out]; exact HST3.out) HB3.out, hlt6⟩
              all_goals (rename_i hx; exact absurd hx HNE.out)
            · rw [if_pos rfl] at hcr
              go_wp2_with fail
              refine (text_calls w.heap.size w.heap.size t2 out false t1 _ HST2.out hol hzz.out).mono ?_
              rintro e w3 ⟨rfl, hst3, hb3⟩
              have HST3 := Aside0.mk hst3
              have HB3 := Aside0.mk (HB2.out.trans hb3)
              clear hst3 hb3
              go_wp2_with fail
              refine (sign_calls w.heap.size w.heap.size t2 (addText out t1) _ HST3.out (by omega) hol2 hz2.out).mono ?_
              rintro e w4 ⟨rfl, hst4, hb4⟩
              have HST4 := Aside0.mk hst4
              have HB4 := Aside0.mk (HB3.out.trans hb4)
              clear hst4 hb4
              go_wp2_with fail
              exact ⟨hNX.out _ (by rw [hcr.out]; exact HST4.out) HB4.out, hlt6⟩
              all_goals (rename_i hx; exact absurd hx HNE.out)
          · have hn1 : t1.toList = [] := size_nil ht1
            rw [if_neg ht1] at hti
            rw [hti.out] at hmid hcr
            have hmf := hmid.out
            have hz2 : Hid (0 < out.length → (rd_T162 out ((out.length - 1 : Nat) : Int)).f1.size < 9223372036854775807) := Lib.hid fun h0 => by
              have := few_last hmf h0
              omega
            clear hmf
            cases t3
            · rw [if_neg (by decide)] at hcr
              go_wp2_with fail
              exact ⟨hNX.out _ (by rw [hcr.out]; exact HST2.out) HB2.out, hlt6⟩
            · rw [if_pos rfl] at hcr
              go_wp2_with fail
              refine (sign_calls w.heap.size w.heap.size t2 out _ HST2.out (by omega) hol hz2.out).mono ?_
              rintro e w4 ⟨rfl, hst4, hb4⟩
              have HST4 := Aside0.mk hst4
              have HB4 := Aside0.mk (HB2.out.trans hb4)
              clear hst4 hb4
              go_wp2_with fail
              exact ⟨hNX.out _ (by rw [hcr.out]; exact HST4.out) HB4.out, hlt6⟩
          all_goals (rename_i hx; exact absurd hx (by rw [HIE.out]; decide))
        · have hFd := cutGo_done HGO.out (by simp)
          rw [hFd, if_pos rfl] at hd
          clear HGO hFd
          go_wp2_with fail
          refine bodyPost_ret (v := .tuple #[.slice none 0 0, .int .i64 300]) (by simp [results, Tryz.results121, go_sem]) rfl ?_
          rw [hd.out]
          exact ⟨_, rfl, Kd.R_nil _ _ _ _ _, HBEL.out⟩
      · have hn : rest.toList = [] := size_nil h1
        have hFd := cutGo_done HGO.out (fun h => h1 h.1)
        rw [hFd] at hd
        clear HGO hFd
        cases bad
        · rw [if_neg (by simp)] at hd
          go_wp2_with fail
          refine bodyPost_ret (v := .tuple #[v, .int .i64 0]) (by simp [results, Tryz.results121, go_sem]) rfl ?_
          rw [hd.out]
          exact ⟨_, rfl, Kd.R_mono HR.out (fun _ _ => trivial), HBEL.out⟩
        · rw [if_pos rfl] at hd
          go_wp2_with fail
          refine bodyPost_ret (v := .tuple #[.slice none 0 0, .int .i64 300]) (by simp [results, Tryz.results121, go_sem]) rfl ?_
          rw [hd.out]
          exact ⟨_, rfl, Kd.R_nil _ _ _ _ _, HBEL.out⟩
end Go.Proofs.YtefheailchihaaaGreatDoor.Print

end
section
namespace Go.Proofs.YtefheailchihaaaGreatDoor.Print
open Go.RowKit Go.Lib Go.Shelf Go.Proofs.YtefheailchihaaaGreatDoorW.PrintWords Go.Proofs.YtefheailchihaaaGreatDoorW.PrintLast Go.Proofs.YtefheailchihaaaGreatDoorW.PrintMore
set_option linter.unusedVariables false

/-- What stands behind a $ that is a variable: is it in braces, the text from its name on. -/
def braceOf (q : ByteArray) : ByteArray := if hasP q ⟨#[123]⟩ = true then q.extract 1 q.size else q
def okVar (q : ByteArray) : Bool :=
  decide (1 ≤ varLen (braceOf q)) && (decide (varLen (braceOf q) ≤ 16) && (!hasP q ⟨#[123]⟩ || hasP (restOf (braceOf q)) ⟨#[125]⟩))
def varEnd (q : ByteArray) : Nat := varLen (braceOf q) + if hasP q ⟨#[123]⟩ = true then 2 else 0
def refGo : Nat → ByteArray → List S162 → List S162 × Int
  | 0, _, out => (out, 0)
  | k + 1, r, out =>
    if h : 1 ≤ r.size then
      if r[0] ≠ 36 then refGo k (r.extract 1 r.size) (addText out ⟨#[r[0]]⟩)
      else if h2 : 2 ≤ r.size then
        if sgn r[1] = true then refGo k (r.extract 2 r.size) (addText out ⟨#[r[1]]⟩)
        else if okVar (r.extract 1 r.size) = true then
          refGo k (r.extract (1 + varEnd (r.extract 1 r.size)) r.size) (out ++ [⟨true, wordOf (braceOf (r.extract 1 r.size))⟩])
        else ([], 300)
      else ([], 300)
    else (out, 0)
def refOf (s : ByteArray) : List S162 × Int := if plainB s 2048 = true then refGo s.size s [] else ([], 300)

theorem ext_ext (s : ByteArray) (a b : Nat) : (s.extract a s.size).extract b (s.extract a s.size).size = s.extract (a + b) s.size := by
  apply ByteArray.ext
  simp [ByteArray.data_extract, ByteArray.size_extract]
  congr 1
  omega
theorem ext_get (s : ByteArray) (a j : Nat) (h : j < (s.extract a s.size).size) (h' : a + j < s.size) : (s.extract a s.size)[j] = s[a + j] := by
  show (s.extract a s.size).data[j] = s.data[a + j]
  simp [ByteArray.data_extract]
theorem refGo_end {k : Nat} {r : ByteArray} {out : List S162} {F} (h : refGo k r out = F) (h1 : ¬ 1 ≤ r.size) : F = (out, 0) := by
  rw [← h]
  cases k with
  | zero => rfl
  | succ k => simp only [refGo]; rw [dif_neg h1]
theorem refGo_text {k : Nat} {r : ByteArray} {out : List S162} {F} (h : refGo (k + 1) r out = F) (h1 : 1 ≤ r.size) (hc : r[0] ≠ 36) : refGo k (r.extract 1 r.size) (addText out ⟨#[r[0]]⟩) = F := by
  rw [← h]; simp only [refGo]; rw [dif_pos h1, if_pos hc]
theorem refGo_lone {k : Nat} {r : ByteArray} {out : List S162} {F} (h : refGo (k + 1) r out = F) (h1 : 1 ≤ r.size) (hc : r[0] = 36) (h2 : ¬ 2 ≤ r.size) : F = ([], 300) := by
  rw [← h]; simp only [refGo]; rw [dif_pos h1, if_neg (by rw [hc]; decide), dif_neg h2]
theorem refGo_sign {k : Nat} {r : ByteArray} {out : List S162} {F} (h : refGo (k + 1) r out = F) (h2 : 2 ≤ r.size) (hc : r[0] = 36) (hs : sgn r[1] = true) : refGo k (r.extract 2 r.size) (addText out ⟨#[r[1]]⟩) = F := by
  rw [← h]; simp only [refGo]; rw [dif_pos (by omega), if_neg (by rw [hc]; decide), dif_pos h2, if_pos hs]
theorem refGo_var {k : Nat} {r : ByteArray} {out : List S162} {F} (h : refGo (k + 1) r out = F) (h2 : 2 ≤ r.size) (hc : r[0] = 36) (hs : sgn r[1] = false) :
    (okVar (r.extract 1 r.size) = true → refGo k (r.extract (1 + varEnd (r.extract 1 r.size)) r.size) (out ++ [⟨true, wordOf (braceOf (r.extract 1 r.size))⟩]) = F) ∧ (okVar (r.extract 1 r.size) = false → F = ([], 300)) := by
  rw [← h]; simp only [refGo]; rw [dif_pos (by omega), if_neg (by rw [hc]; decide), dif_pos h2, if_neg (by rw [hs]; decide)]
  exact ⟨fun ho => by rw [if_pos ho], fun ho => by rw [if_neg (by rw [ho]; decide)]⟩


end Go.Proofs.YtefheailchihaaaGreatDoor.Print

namespace Go.Proofs.YtefheailchihaaaGreatDoor.Print
open Go.RowKit Go.Lib Go.Shelf Go.Proofs.YtefheailchihaaaGreatDoorW.PrintWords Go.Proofs.YtefheailchihaaaGreatDoorW.PrintLast Go.Proofs.YtefheailchihaaaGreatDoorW.PrintMore

end Go.Proofs.YtefheailchihaaaGreatDoor.Print

namespace Go.Proofs.YtefheailchihaaaGreatDoor.Print
open Go.RowKit Go.Lib Go.Shelf Go.Proofs.YtefheailchihaaaGreatDoorW.PrintWords Go.Proofs.YtefheailchihaaaGreatDoorW.PrintLast Go.Proofs.YtefheailchihaaaGreatDoorW.PrintMore

theorem rd57_last (out : List S162) (x : S162) : rd_T162 (out ++ [x]) (((out ++ [x]).length - 1 : Nat) : Int) = x := by
  simp [rd_T162]
theorem rd57_set (out : List S162) (x : S162) (h : 0 < out.length) : rd_T162 (out.set (out.length - 1) x) (((out.set (out.length - 1) x).length - 1 : Nat) : Int) = x := by
  simp [rd_T162, List.length_set, List.getD_eq_getElem?_getD, List.getElem?_set]
  rw [if_pos (by omega)]
  rfl
theorem addText_addText (out : List S162) (a b : ByteArray) : addText (addText out a) b = addText out (a ++ b) := by
  by_cases h : 0 < out.length ∧ (rd_T162 out ((out.length - 1 : Nat) : Int)).f0 = false
  · have e : addText out a = out.set (out.length - 1) ⟨(rd_T162 out ((out.length - 1 : Nat) : Int)).f0, (rd_T162 out ((out.length - 1 : Nat) : Int)).f1 ++ a⟩ := by unfold addText; rw [if_pos h]
    have e2 : addText out (a ++ b) = out.set (out.length - 1) ⟨(rd_T162 out ((out.length - 1 : Nat) : Int)).f0, (rd_T162 out ((out.length - 1 : Nat) : Int)).f1 ++ (a ++ b)⟩ := by unfold addText; rw [if_pos h]
    rw [e, e2]
    unfold addText
    rw [rd57_set _ _ h.1, if_pos ⟨by rw [List.length_set]; exact h.1, h.2⟩]
    simp only [List.length_set, List.set_set]
    rw [ByteArray.append_assoc]
  · have e : addText out a = out ++ [⟨false, a⟩] := by unfold addText; rw [if_neg h]
    have e2 : addText out (a ++ b) = out ++ [⟨false, a ++ b⟩] := by unfold addText; rw [if_neg h]
    rw [e, e2]
    unfold addText
    rw [rd57_last, if_pos ⟨by simp, rfl⟩]
    simp
theorem ext_first (s : ByteArray) (h : 1 ≤ s.size) : s.extract 0 1 = ⟨#[s[0]]⟩ := by
  apply ByteArray.ext
  apply Array.ext
  · simp; omega
  · intro i h1 h2
    simp at h2
    subst h2
    simp
    rfl
theorem textIf_add (out : List S162) (s : ByteArray) (i : Nat) (h : 1 ≤ s.size) (hi : i + 1 ≤ s.size) :
    textIf (addText out ⟨#[s[0]]⟩) ((s.extract 1 s.size).extract 0 i) = textIf out (s.extract 0 (i + 1)) := by
  have e : s.extract 0 1 ++ (s.extract 1 s.size).extract 0 i = s.extract 0 (i + 1) := by
    apply ByteArray.ext
    simp [ByteArray.data_extract]
    congr 1
    omega
  have hz : (s.extract 0 (i + 1)).size = i + 1 := by simp; omega
  have hz2 : ((s.extract 1 s.size).extract 0 i).size = i := by simp; omega
  have r : textIf out (s.extract 0 (i + 1)) = addText out (s.extract 0 (i + 1)) := by unfold textIf; rw [if_pos (by omega)]
  rw [r, ← e, ext_first s h]
  unfold textIf
  split
  · rw [addText_addText]
  · rename_i h0
    have : (s.extract 1 s.size).extract 0 i = ⟨#[]⟩ := by
      apply ByteArray.ext
      exact Array.eq_empty_of_size_eq_zero (by have : ((s.extract 1 s.size).extract 0 i).data.size = ((s.extract 1 s.size).extract 0 i).size := rfl; omega)
    rw [this]
    rfl
theorem refGo_prefix : ∀ (i k : Nat) (s : ByteArray) (out : List S162), (∀ j (h : j < s.size), j < i → s[j] ≠ 36) → i ≤ s.size → i ≤ k →
    refGo k s out = refGo (k - i) (s.extract i s.size) (textIf out (s.extract 0 i)) := by
  intro i
  induction i with
  | zero =>
    intro k s out _ _ _
    rw [show s.extract 0 s.size = s from ByteArray.extract_zero_size]
    have : (s.extract 0 0).size = 0 := by simp
    unfold textIf
    rw [if_neg (by omega)]
    rfl
  | succ i ih =>
    intro k s out hj hi hk
    obtain ⟨k, rfl⟩ : ∃ k', k = k' + 1 := ⟨k - 1, by omega⟩
    have h1 : 1 ≤ s.size := by omega
    have := refGo_text (k := k) (r := s) (out := out) rfl h1 (hj 0 (by omega) (by omega))
    rw [← this, ih k (s.extract 1 s.size) _ (fun j h hji => by
      rw [ext_get s 1 j h (by simp at h; omega)]
      exact hj (1 + j) _ (by omega)) (by simp; omega) (by omega), ext_ext, textIf_add out s i h1 (by omega)]
    rw [show k + 1 - (i + 1) = k - i by omega, show 1 + i = i + 1 by omega]
theorem cutGo_bad (k : Nat) (rest : ByteArray) (out : List S162) : cutGo k rest out true = (out, true) := by
  cases k with
  | zero => rfl
  | succ k => simp [cutGo]
theorem varLen_empty (q : ByteArray) (h : ¬ 1 ≤ q.size) : varLen q = 0 := by
  have := varLen_le q
  omega
theorem hasP_nil (q : ByteArray) : hasP q ⟨#[]⟩ = true := by
  unfold hasP Lib.hasPrefix
  simp
theorem trimP_nil (q : ByteArray) : trimP q ⟨#[]⟩ = q := by
  unfold trimP Lib.trimPrefix
  have := hasP_nil q
  unfold hasP at this
  rw [if_pos this]
  simp
theorem trimP_one (q : ByteArray) (c : UInt8) (h : hasP q ⟨#[c]⟩ = true) : trimP q ⟨#[c]⟩ = q.extract 1 q.size := by
  unfold trimP Lib.trimPrefix
  unfold hasP at h
  rw [if_pos h]
  apply ByteArray.ext
  simp [ByteArray.data_extract]
  apply Array.ext'
  rw [Array.toList_extract, List.extract, ← List.drop_one, List.take_of_length_le (by rw [List.length_drop]; have := Lib.size_eq q; omega)]

theorem few_some (out : List S162) (m : Nat) : ∃ N, Few N m out := by
  induction out with
  | nil => exact ⟨m, by simp, fun x hx => by simp at hx⟩
  | cons y ys ih =>
    obtain ⟨N, h1, h2⟩ := ih
    refine ⟨N + 1 + y.f1.size, by simp; omega, fun x hx => ?_⟩
    rcases List.mem_cons.1 hx with rfl | hx
    · omega
    · have := h2 x hx; omega
theorem sign_le (rest : ByteArray) (out : List S162) : (signStep rest out).1.size ≤ rest.size := by
  obtain ⟨N, h⟩ := few_some out rest.size
  exact (few_sign rest h).2

/-- A sign, as the reference takes it. -/
theorem sign_ref (k : Nat) (r : ByteArray) (out : List S162) (h1 : 1 ≤ r.size) (hc : r[0] = 36) :
    ((signStep (r.extract 1 r.size) out).2.2 = true ∧ refGo (k + 1) r out = ([], 300)) ∨
    ((signStep (r.extract 1 r.size) out).2.2 = false ∧ refGo (k + 1) r out = refGo k (signStep (r.extract 1 r.size) out).1 (signStep (r.extract 1 r.size) out).2.1) := by
  have hqs : (r.extract 1 r.size).size = r.size - 1 := by simp
  by_cases h2 : 2 ≤ r.size
  · have hq0 : (r.extract 1 r.size)[0]'(by omega) = r[1] := by rw [ext_get r 1 0 (by omega) (by omega)]
    by_cases hs : sgn r[1] = true
    · have e : signStep (r.extract 1 r.size) out = ((r.extract 1 r.size).extract 1 (r.extract 1 r.size).size, addText out ((r.extract 1 r.size).extract 0 1), false) := by
        unfold signStep
        rw [dif_pos (by omega), if_pos (by rw [hq0]; exact hs)]
      rw [e, ext_ext, ext_first _ (by omega), hq0]
      exact Or.inr ⟨rfl, (refGo_sign (k := k) rfl h2 hc hs).symm⟩
    · have hs' : sgn r[1] = false := by simpa using hs
      obtain ⟨v1, v2⟩ := refGo_var (k := k) (r := r) (out := out) rfl h2 hc hs'
      have hext : ∀ b, (r.extract 1 r.size).extract b (r.extract 1 r.size).size = r.extract (1 + b) r.size := fun b => ext_ext r 1 b
      have hq1 : ∀ h : 1 ≤ (r.extract 1 r.size).size, (r.extract 1 r.size)[0] = r[1] := fun _ => hq0
      have hst : signStep (r.extract 1 r.size) out = if hasP (r.extract 1 r.size) ⟨#[123]⟩ = true then varStep ((r.extract 1 r.size).extract 1 (r.extract 1 r.size).size) out ⟨#[125]⟩ else varStep (r.extract 1 r.size) out ⟨#[]⟩ := by
        unfold signStep
        rw [dif_pos (by omega), if_neg (by rw [hq0]; exact hs)]
      rw [hst]
      clear hst hq1 hq0
      generalize r.extract 1 r.size = q at *
      have hokd : okVar q = (decide (1 ≤ varLen (braceOf q)) && (decide (varLen (braceOf q) ≤ 16) && (!hasP q ⟨#[123]⟩ || hasP (restOf (braceOf q)) ⟨#[125]⟩))) := rfl
      have hved : varEnd q = varLen (braceOf q) + if hasP q ⟨#[123]⟩ = true then 2 else 0 := rfl
      have hbd : braceOf q = if hasP q ⟨#[123]⟩ = true then q.extract 1 q.size else q := rfl
      have hvs : ∀ (Z e : ByteArray), varStep Z out e = if (hasP (restOf Z) e && (decide (1 ≤ (wordOf Z).size) && decide ((wordOf Z).size ≤ 16))) = true then (trimP (restOf Z) e, out ++ [⟨true, wordOf Z⟩], false) else (trimP (restOf Z) e, out, true) := fun _ _ => rfl
      have hws : ∀ Z, (wordOf Z).size = varLen Z := fun Z => by have := varLen_le Z; simp [wordOf]; omega
      by_cases hb : hasP q ⟨#[123]⟩ = true
      · rw [if_pos hb] at hved hbd ⊢
        rw [hb, hbd] at hokd
        rw [hbd] at hved v1
        rw [hvs, hws]
        have hz := varLen_le (q.extract 1 q.size)
        by_cases hg : (hasP (restOf (q.extract 1 q.size)) ⟨#[125]⟩ && (decide (1 ≤ varLen (q.extract 1 q.size)) && decide (varLen (q.extract 1 q.size) ≤ 16))) = true
        · rw [if_pos hg]
          simp only [Bool.and_eq_true, decide_eq_true_eq] at hg
          have := v1 (by rw [hokd]; simp [hg.1, hg.2.1, hg.2.2])
          refine Or.inr ⟨rfl, ?_⟩
          rw [← this, hved]
          simp only []
          rw [trimP_one _ _ hg.1, show (restOf (q.extract 1 q.size)) = (q.extract 1 q.size).extract (varLen (q.extract 1 q.size)) (q.extract 1 q.size).size from rfl, ext_ext (q.extract 1 q.size) (varLen (q.extract 1 q.size)) 1, ext_ext q 1 (varLen (q.extract 1 q.size) + 1), hext (1 + (varLen (q.extract 1 q.size) + 1))]
          congr 2
          omega
        · rw [if_neg hg]
          refine Or.inl ⟨rfl, v2 ?_⟩
          rw [hokd]
          rw [Bool.not_eq_true] at hg
          rw [← hg]
          simp [Bool.and_comm, Bool.and_left_comm]
      · rw [if_neg hb] at hved hbd ⊢
        rw [Bool.not_eq_true] at hb
        rw [hb, hbd] at hokd
        rw [hbd] at hved v1
        rw [hvs, hws, hasP_nil, Bool.true_and]
        by_cases hg : (decide (1 ≤ varLen q) && decide (varLen q ≤ 16)) = true
        · rw [if_pos hg]
          simp only [Bool.and_eq_true, decide_eq_true_eq] at hg
          have := v1 (by rw [hokd]; simp [hg.1, hg.2])
          refine Or.inr ⟨rfl, ?_⟩
          rw [← this, hved]
          simp only []
          rw [trimP_nil, show restOf q = q.extract (varLen q) q.size from rfl, hext]
          congr 2
        · rw [if_neg hg]
          refine Or.inl ⟨rfl, v2 ?_⟩
          rw [hokd]
          rw [Bool.not_eq_true] at hg
          simp only [Bool.not_false, Bool.true_or, Bool.and_true]
          exact hg
  · have e : signStep (r.extract 1 r.size) out = varStep (r.extract 1 r.size) out ⟨#[]⟩ := by
      unfold signStep
      rw [dif_neg (by omega)]
    have hw : (wordOf (r.extract 1 r.size)).size = 0 := by
      unfold wordOf
      rw [varLen_empty _ (by omega)]
      simp
    have e2 : (varStep (r.extract 1 r.size) out ⟨#[]⟩).2.2 = true := by
      unfold varStep
      rw [if_neg (by simp [hw])]
    rw [e]
    exact Or.inl ⟨e2, refGo_lone (k := k) rfl h1 hc h2⟩

def asAnswer (F : List S162 × Bool) : List S162 × Int := if F.2 = true then ([], 300) else (F.1, 0)
theorem cut_ref : ∀ (m k j : Nat) (rest : ByteArray) (out : List S162), rest.size ≤ m → rest.size ≤ k → rest.size ≤ j → asAnswer (cutGo k rest out false) = refGo j rest out := by
  intro m
  induction m with
  | zero =>
    intro k j rest out hm _ _
    rw [cutGo_done (k := k) rfl (by omega), refGo_end (k := j) rfl (by omega)]
    rfl
  | succ m ih =>
    intro k j rest out hm hk hj
    by_cases h1 : 1 ≤ rest.size
    · obtain ⟨k, rfl⟩ : ∃ k', k = k' + 1 := ⟨k - 1, by omega⟩
      have hn := cutGo_next (k := k + 1) (rest := rest) (out := out) rfl h1 hk
      rw [← hn, Nat.add_sub_cancel]
      have hcs := (cutStep_size rest).2 h1
      unfold cutRound
      by_cases hc : 0 ≤ cutAt rest
      · obtain ⟨i, hi, hlt⟩ := cutAt_lt rest hc
        have hcst : cutStep rest = (rest.extract 0 i, rest.extract (i + 1) rest.size, true) := by
          unfold cutStep
          rw [if_pos hc, hi]
          rfl
        obtain ⟨hx, hy⟩ := Lib.indexByte_some (show Lib.indexByte rest.data.toList 36 = (i : Nat) from hi)
        have hget : ∀ (j : Nat) (h : j < rest.size), rest.data.toList[j]? = some rest[j] := fun j h => by
          rw [List.getElem?_eq_getElem (by simpa using h)]
          rfl
        have hp := refGo_prefix i j rest out (fun a h hai e => hy a hai (by rw [hget a h, e])) (by omega) (by omega)
        rw [hcst]
        simp only []
        rw [if_pos trivial, hp]
        have hrs : (rest.extract i rest.size).size = rest.size - i := by simp
        have hr0 : (rest.extract i rest.size)[0]'(by omega) = 36 := by
          rw [ext_get rest i 0 (by omega) (by omega)]
          rw [hget i hlt] at hx
          simpa using hx
        obtain ⟨j', hj'⟩ : ∃ j', j - i = j' + 1 := ⟨j - i - 1, by omega⟩
        rw [hj']
        have hs := sign_ref j' (rest.extract i rest.size) (textIf out (rest.extract 0 i)) (by omega) hr0
        rw [ext_ext] at hs
        have hle := sign_le (rest.extract (i + 1) rest.size) (textIf out (rest.extract 0 i))
        have hes : (rest.extract (i + 1) rest.size).size = rest.size - (i + 1) := by simp
        rcases hs with ⟨b, e⟩ | ⟨b, e⟩
        · rw [b, cutGo_bad, e]
          rfl
        · rw [b, e]
          exact ih _ _ _ _ (by omega) (by omega) (by omega)
      · have hcst : cutStep rest = (rest, ⟨#[]⟩, false) := by
          unfold cutStep
          rw [if_neg hc]
        have hi1 : Lib.indexByte rest.data.toList 36 = -1 := by have := Lib.indexByte_ge rest.data.toList 36; unfold cutAt at hc; omega
        have hget : ∀ (j : Nat) (h : j < rest.size), rest.data.toList[j]? = some rest[j] := fun j h => by
          rw [List.getElem?_eq_getElem (by simpa using h)]
          rfl
        have hp := refGo_prefix rest.size j rest out (fun a h hai e => Lib.indexByte_none hi1 a (by rw [hget a h, e])) (by omega) (by omega)
        rw [hcst]
        simp only []
        rw [if_neg (by simp), hp]
        rw [cutGo_done (k := k) rfl (by rw [show (⟨#[]⟩ : ByteArray).size = 0 from rfl]; omega), refGo_end (k := j - rest.size) rfl (by simp), show rest.extract 0 rest.size = rest from ByteArray.extract_zero_size]
        rfl
    · rw [cutGo_done (k := k) rfl (by omega), refGo_end (k := j) rfl (by omega)]
      rfl
theorem cutOf_eq (s : ByteArray) : cutOf s = refOf s := by
  unfold cutOf refOf
  split
  · exact cut_ref s.size s.size s.size s [] (by omega) (by omega) (by omega)
  · rfl
end Go.Proofs.YtefheailchihaaaGreatDoor.Print

end
section
namespace Go.Proofs.YtefheailchihaaaGreatDoor.Print
open Go.RowKit Go.Lib Go.Proofs.YtefheailchihaaaGreatDoorW.PrintWords Go.Proofs.YtefheailchihaaaGreatDoorW.PrintLast
set_option linter.unusedVariables false

theorem bt_natD (s : ByteArray) (i : Nat) (h : i < s.size) : bt s (i : Int) = (s[i].toNat : Int) := by
  unfold bt
  rw [dif_pos (by simpa using h)]
  rfl


theorem byte_eq (c d : UInt8) : ((c.toNat : Int) = (d.toNat : Int)) ↔ c = d := by
  constructor
  · intro h; exact UInt8.toNat_inj.1 (by omega)
  · intro h; rw [h]
end Go.Proofs.YtefheailchihaaaGreatDoor.Print

end
