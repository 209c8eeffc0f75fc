import Derived.BigQuiet
import Derived.IntWalk
import Derived.Test.YtefheailchihaaaGreatDoorSg6
set_option maxHeartbeats 8000000
set_option maxRecDepth 100000
set_option linter.unusedVariables false
set_option linter.unusedSimpArgs false
section
namespace Go.Proofs.YtefheailchihaaaGreatDoor.Print
open Go.RowKit Go.Lib Go.Shelf Go.Proofs.YtefheailchihaaaGreatDoorW.PrintWords Go.Proofs.YtefheailchihaaaGreatDoorW.PrintLast Go.Proofs.YtefheailchihaaaGreatDoorW.PrintMore
def cutAtD (s : ByteArray) : Int := Lib.indexByte s.data.toList 10
def F9 (s : ByteArray) : ByteArray × ByteArray × Bool := if 0 ≤ cutAtD s then (s.extract 0 (cutAtD s).toNat, s.extract ((cutAtD s).toNat + 1) s.size, true) else (s, ⟨#[]⟩, false)
theorem cutAt_ltD (s : ByteArray) (h : 0 ≤ cutAtD s) : ∃ i : Nat, cutAtD s = i ∧ i < s.size := by
 obtain ⟨i, hi⟩ := Int.eq_ofNat_of_zero_le h
 refine ⟨i, hi, ?_⟩
 have := (Lib.indexByte_some (show Lib.indexByte s.data.toList 10 = (i : Nat) from hi)).1
 rw [Lib.size_eq]
 exact (List.getElem?_eq_some_iff.mp this).1
theorem cutB_calls (s : ByteArray) (hs : s.size ≤ 9223372036854775807) (w : World) :
 Calls Tryz.prog 67 #[.string s, .string ⟨#[10]⟩] w fun e w' => e = .returned (.tuple #[.string (F9 s).1, .string (F9 s).2.1, .bool (F9 s).2.2]) ∧ ∃ n, w' = w.drewN n := by
 by_cases h : 0 ≤ cutAtD s
 ·obtain ⟨i, hi, hlt⟩ := cutAt_ltD s h
  have hd : Hid (F9 s = (s.extract 0 i, s.extract (i + 1) s.size, true)) := by
   unfold F9
   rw [if_pos h, hi]
   exact Lib.hid rfl
  have HI : Hid (Lib.indexByte s.data.toList 10 = (i : Int)) := Lib.hid hi
  clear h hi
  have h0 : (0 : Int) ≤ i := by omega
  have h1 : (i : Int) ≤ s.size := by omega
  have h2 : (0 : Int) ≤ (i : Int) + 1 := by omega
  have h3 : (i : Int) + 1 ≤ s.size := by omega
  have h4 : IntKind.i64.wrap ((i : Int) + 1) = (i : Int) + 1 := IntWalk.i64_in _ (by omega)
  have h5 : ((i : Int) + 1).toNat = i + 1 := by omega
  go_enter Tryz.func67, Tryz.ntmps67
  go_wp2_with fail
  refine (Tryz.stringslite_Index_one s 10 _).mono ?_
  rintro e w' ⟨rfl, rfl⟩
  rw [HI.out]
  go_wp2_with fail
  go_quiet (fail)
  go_wp2_with fail
  refine bodyPost_ret (v := .tuple #[.string (s.extract 0 i), .string (s.extract (i + 1) s.size), .bool true]) (by simp [results, Tryz.results67, go_sem]) rfl ?_
  rw [hd.out]
  exact ⟨rfl, _, rfl⟩
 ·have hd : Hid (F9 s = (s, ⟨#[]⟩, false)) := by
   unfold F9
   rw [if_neg h]
   exact Lib.hid rfl
  have HI : Hid (Lib.indexByte s.data.toList 10 = -1) := Lib.hid (by have := Lib.indexByte_ge s.data.toList 10; unfold cutAtD at h; omega)
  clear h
  go_enter Tryz.func67, Tryz.ntmps67
  go_wp2_with fail
  refine (Tryz.stringslite_Index_one s 10 _).mono ?_
  rintro e w' ⟨rfl, rfl⟩
  rw [HI.out]
  go_wp2_with fail
  refine bodyPost_ret (v := .tuple #[.string s, .string ⟨#[]⟩, .bool false]) (by simp [results, Tryz.results67, go_sem]) rfl ?_
  rw [hd.out]
  exact ⟨rfl, 0, rfl⟩
theorem cut_calls (s : ByteArray) (hs : s.size ≤ 9223372036854775807) (w : World) :
 Calls Tryz.prog 36 #[.string s, .string ⟨#[10]⟩] w fun e w' => e = .returned (.tuple #[.string (F9 s).1, .string (F9 s).2.1, .bool (F9 s).2.2]) ∧ ∃ n, w' = w.drewN n := by
 obtain ⟨⟨t1, t2, t3⟩, ht⟩ : ∃ t, F9 s = t := ⟨_, rfl⟩
 have HT := Lib.hid ht
 clear ht
 go_enter Tryz.func36, Tryz.ntmps36
 go_wp2_with fail
 refine (cutB_calls s hs _).mono ?_
 rw [HT.out]
 rintro e w' ⟨rfl, n, rfl⟩
 go_wp2_with fail
 refine bodyPost_ret (v := .tuple #[.string t1, .string t2, .bool t3]) (by simp [results, Tryz.results36, go_sem]) rfl ?_
 rw [HT.out]
 exact ⟨rfl, _, rfl⟩
def tailN (l : List UInt8) : Nat := (l.reverse.takeWhile fun c => c == 36).length
def onB (s : ByteArray) : Bool := tailN s.data.toList % 2 == 1
theorem tail_trim (l : List UInt8) : (Lib.trimRightB l 36).length + tailN l = l.length := by
 unfold Lib.trimRightB tailN
 rw [List.length_reverse]
 have := congrArg List.length (List.takeWhile_append_dropWhile (p := fun c : UInt8 => c == 36) (l := l.reverse))
 rw [List.length_append, List.length_reverse] at this
 omega
theorem on_calls (s : ByteArray) (hs : s.size ≤ 9223372036854775807) (w : World) :
 Calls Tryz.prog 37 #[.string s] w fun e w' => e = .returned (.bool (onB s)) ∧ w = w' := by
 have ht := tail_trim s.data.toList
 have hl : s.data.toList.length = s.size := (Lib.size_eq s).symm
 obtain ⟨T, hT⟩ : ∃ T : ByteArray, ⟨(Lib.trimRightB s.data.toList 36).toArray⟩ = T := ⟨_, rfl⟩
 have hz : T.size = (Lib.trimRightB s.data.toList 36).length := by rw [← hT]; simp [ByteArray.size]
 have h1 : T.size + tailN s.data.toList = s.size := by omega
 have HD : Hid (onB s = (tailN s.data.toList % 2 == 1)) := rfl
 obtain ⟨n, hn⟩ : ∃ n, tailN s.data.toList = n := ⟨_, rfl⟩
 rw [hn] at h1 HD
 have HT := Lib.hid hT
 clear hT hz ht hl hn
 have e1 : (s.size : Int) - (T.size : Int) = (n : Int) := by omega
 have HE := Lib.hid e1
 clear e1
 have hb1 : T.size ≤ s.size := by omega
 go_enter Tryz.func37, Tryz.ntmps37
 go_wp2_with fail
 refine (Tryz.strings_TrimRight_one s 36 (by decide) _ hs).mono ?_
 rw [HT.out]
 rintro e w' ⟨rfl, hw⟩
 rw [hw]
 clear hw
 go_wp2_with fail
 go_ret
 exact ⟨Ee (by rw [HE.out, HD.out, Bool.eq_iff_iff]; simp; omega), rfl⟩
def mayB (s : ByteArray) : Bool := decide (s.size ≤ 2048) && (Do ⟨(noNl s.data.toList).toArray⟩ 2048 && (decide (s.size = 0) || Lib.hasSuffix s.data.toList [10]))
theorem linesMay_calls (s : ByteArray) (hs : s.size ≤ 9223372036854775807) (w : World) :
 Calls Tryz.prog 35 #[.string s] w fun e w' => e = .returned (.bool (mayB s)) ∧ Below w.heap.size w w' := by
 have HD : Hid (mayB s = (decide (s.size ≤ 2048) && (Do ⟨(noNl s.data.toList).toArray⟩ 2048 && (decide (s.size = 0) || Lib.hasSuffix s.data.toList [10])))) := rfl
 by_cases h48 : s.size ≤ 2048
 ·obtain ⟨T, hT⟩ : ∃ T : ByteArray, ⟨(noNl s.data.toList).toArray⟩ = T := ⟨_, rfl⟩
  obtain ⟨P, hP⟩ : ∃ P, Do T 2048 = P := ⟨_, rfl⟩
  obtain ⟨S, hS⟩ : ∃ S, Lib.hasSuffix s.data.toList [10] = S := ⟨_, rfl⟩
  have hTz : T.size ≤ 2048 := by
   rw [← hT]
   have : (noNl s.data.toList).length ≤ s.data.toList.length := List.length_filter_le _ _
   have e := Lib.size_eq s
   simp [ByteArray.size]
   omega
  rw [hT, hP, hS] at HD
  have HT := Lib.hid hT
  have HP := Lib.hid hP
  have HS := Lib.hid hS
  clear hT hP hS
  go_enter Tryz.func35, Tryz.ntmps35
  go_wp2_with fail
  refine (replaceAll_calls s (by omega) _).mono ?_
  rw [HT.out]
  rintro e w1 ⟨rfl, hb1⟩
  have HB1 := Aa.mk hb1
  clear hb1
  go_wp2_with fail
  refine (H7 T 2048 _ (by omega)).mono ?_
  rw [HP.out]
  rintro e w2 ⟨rfl, rfl⟩
  cases P
  ·go_wp2_with fail
   go_ret
   exact ⟨Ee (by rw [HD.out]; simp), HB1.out⟩
  ·by_cases h0 : s.size = 0
   ·have hn : s.toList = [] := Fg (by omega)
    go_wp2_with fail
    go_ret
    exact ⟨Ee (by rw [HD.out]; simp [h0]), HB1.out⟩
   ·have hn : (s.toList == []) = false := beq_eq_false_iff_ne.2 (E2 (by omega))
    go_wp2_with fail
    refine (Tryz.strings_HasSuffix s ⟨#[10]⟩ _ hs).mono ?_
    rw [show (⟨#[10]⟩ : ByteArray).data.toList = [10] from rfl, HS.out]
    rintro e w3 ⟨rfl, hw⟩
    rw [hw]
    clear hw
    go_wp2_with fail
    go_ret
    exact ⟨Ee (by rw [HD.out]; simp [h0, h48]), HB1.out⟩
 ·go_enter Tryz.func35, Tryz.ntmps35
  go_wp2_with fail
  go_ret
  exact ⟨Ee (by rw [HD.out]; simp [h48]), Below.refl _ _⟩
def Pb (w : World) (B : Nat) (vE vP vD vO vR fd fo : Value) (e : Int) : Prop := w.heap[B]? = some (.cells #[vE, vP, vD, vO, vR, fd, fo, .int .i64 e] 57 (0, 0))
theorem pb_cells {w : World} {B : Nat} {vE vP vD vO vR fd fo : Value} {e : Int} (h : Pb w B vE vP vD vO vR fd fo e) :
 w.cell? ⟨B, 0, none⟩ = some vE ∧ w.cell? ⟨B, 1, none⟩ = some vP ∧ w.cell? ⟨B, 2, none⟩ = some vD ∧ w.cell? ⟨B, 3, none⟩ = some vO ∧ w.cell? ⟨B, 4, none⟩ = some vR ∧ w.cell? ⟨B, 5, none⟩ = some fd ∧ w.cell? ⟨B, 6, none⟩ = some fo ∧ w.cell? ⟨B, 7, none⟩ = some (.int .i64 e) ∧ ∀ i, w.frozen? ⟨B, i, none⟩ = false :=
 ⟨Ab h 0, Ab h 1, Ab h 2, Ab h 3, Ab h 4, Ab h 5, Ab h 6, Ab h 7, fun i => As h i⟩
def B9 (e : Int) (is : Bool) : Int := if is = false ∧ e = 0 then 800 else e
def Gr (e : Int) (is : Bool) : Int := if is = false ∧ e = 0 then 801 else e
def Db (e c : Int) : Int := B9 (Gr e (c != 401)) (c == 0)
theorem C6 (B : Nat) (vE vP vD vO vR fd fo : Value) (e : Int) (is : Bool) (w : World) (h : Pb w B vE vP vD vO vR fd fo e) :
 Calls Tryz.prog 40 #[.pointer (some ⟨B, 0, none⟩), .bool is] w fun x w' => x = .returned (.tuple #[]) ∧ Pb w' B vE vP vD vO vR fd fo (B9 e is) ∧ Kept w w' (fun k => k = B) ∧ ∀ base, base ≤ B → Below base w w' := by
 have H := Lib.hid h
 obtain ⟨_, _, _, _, _, _, _, c7, f⟩ := pb_cells h
 have f7 := f 7
 clear f h
 have HN := Lib.hid (show B9 e is = if is = false ∧ e = 0 then 800 else e from rfl)
 cases is
 ·by_cases h0 : e = 0
  ·subst h0
   go_enter Tryz.func40, Tryz.ntmps40
   go_wp2_with fail
   go_end0
   rw [HN.out, if_pos (by simp)]
   exact ⟨rfl, Az H.out 7 _ rfl, Bm w B 7 _, fun base hb => (Below.refl _ _).setCell hb _⟩
  ·have h0b : (e == 0) = false := beq_eq_false_iff_ne.2 h0
   go_enter Tryz.func40, Tryz.ntmps40
   go_wp2_with fail
   go_end0
   rw [HN.out, if_neg (fun h => h0 h.2)]
   exact ⟨rfl, H.out, Kept.refl _ _, fun base hb => Below.refl _ _⟩
 ·go_enter Tryz.func40, Tryz.ntmps40
  go_wp2_with fail
  go_end0
  rw [HN.out, if_neg (fun h => absurd h.1 (by decide))]
  exact ⟨rfl, H.out, Kept.refl _ _, fun base hb => Below.refl _ _⟩
theorem room_calls (B : Nat) (vE vP vD vO vR fd fo : Value) (e : Int) (is : Bool) (w : World) (h : Pb w B vE vP vD vO vR fd fo e) :
 Calls Tryz.prog 79 #[.pointer (some ⟨B, 0, none⟩), .bool is] w fun x w' => x = .returned (.tuple #[]) ∧ Pb w' B vE vP vD vO vR fd fo (Gr e is) ∧ Kept w w' (fun k => k = B) ∧ ∀ base, base ≤ B → Below base w w' := by
 have H := Lib.hid h
 obtain ⟨_, _, _, _, _, _, _, c7, f⟩ := pb_cells h
 have f7 := f 7
 clear f h
 have HN := Lib.hid (show Gr e is = if is = false ∧ e = 0 then 801 else e from rfl)
 cases is
 ·by_cases h0 : e = 0
  ·subst h0
   go_enter Tryz.func79, Tryz.ntmps79
   go_wp2_with fail
   go_end0
   rw [HN.out, if_pos (by simp)]
   exact ⟨rfl, Az H.out 7 _ rfl, Bm w B 7 _, fun base hb => (Below.refl _ _).setCell hb _⟩
  ·have h0b : (e == 0) = false := beq_eq_false_iff_ne.2 h0
   go_enter Tryz.func79, Tryz.ntmps79
   go_wp2_with fail
   go_end0
   rw [HN.out, if_neg (fun h => h0 h.2)]
   exact ⟨rfl, H.out, Kept.refl _ _, fun base hb => Below.refl _ _⟩
 ·go_enter Tryz.func79, Tryz.ntmps79
  go_wp2_with fail
  go_end0
  rw [HN.out, if_neg (fun h => absurd h.1 (by decide))]
  exact ⟨rfl, H.out, Kept.refl _ _, fun base hb => Below.refl _ _⟩
theorem took_calls (B : Nat) (vE vP vD vO vR fd fo : Value) (e c : Int) (w : World) (h : Pb w B vE vP vD vO vR fd fo e) :
 Calls Tryz.prog 86 #[.pointer (some ⟨B, 0, none⟩), .int .i64 c] w fun x w' => x = .returned (.tuple #[]) ∧ Pb w' B vE vP vD vO vR fd fo (Db e c) ∧ Kept w w' (fun k => k = B) ∧ ∀ base, base ≤ B → Below base w w' := by
 have H1 := Lib.hid (room_calls B vE vP vD vO vR fd fo e (c != 401) w h)
 clear h
 go_enter Tryz.func86, Tryz.ntmps86
 go_wp2_with (first | (go_at_call 79; refine H1.out.mono ?_; rintro x w1 ⟨rfl, hp, hk, hb⟩; have HP1 := Aa.mk hp; have HK1 := Aa.mk hk; have HB1 := Aa.mk hb; clear hp hk hb) | (go_at_call 40; refine (C6 B vE vP vD vO vR fd fo _ _ _ HP1.out).mono ?_; rintro x w2 ⟨rfl, hp, hk, hb⟩; have HP2 := Aa.mk hp; have HK2 := Aa.mk hk; have HB2 := Aa.mk hb; clear hp hk hb))
 go_end0
 exact ⟨rfl, HP2.out, Kept.then_ HK1.out HK2.out (fun k hk => .inl hk), fun base hb => (HB1.out base hb).trans (HB2.out base hb)⟩
def cutAtC (c : UInt8) (s : ByteArray) : Int := Lib.indexByte s.data.toList c
def cutC (c : UInt8) (s : ByteArray) : ByteArray × ByteArray × Bool := if 0 ≤ cutAtC c s then (s.extract 0 (cutAtC c s).toNat, s.extract ((cutAtC c s).toNat + 1) s.size, true) else (s, ⟨#[]⟩, false)
theorem cutAt_ltC (c : UInt8) (s : ByteArray) (h : 0 ≤ cutAtC c s) : ∃ i : Nat, cutAtC c s = i ∧ i < s.size := by
 obtain ⟨i, hi⟩ := Int.eq_ofNat_of_zero_le h
 refine ⟨i, hi, ?_⟩
 have := (Lib.indexByte_some (show Lib.indexByte s.data.toList c = (i : Nat) from hi)).1
 rw [Lib.size_eq]
 exact (List.getElem?_eq_some_iff.mp this).1
theorem cutB_callsC (c : UInt8) (s : ByteArray) (hs : s.size ≤ 9223372036854775807) (w : World) :
 Calls Tryz.prog 67 #[.string s, .string ⟨#[c]⟩] w fun e w' => e = .returned (.tuple #[.string (cutC c s).1, .string (cutC c s).2.1, .bool (cutC c s).2.2]) ∧ ∃ n, w' = w.drewN n := by
 by_cases h : 0 ≤ cutAtC c s
 ·obtain ⟨i, hi, hlt⟩ := cutAt_ltC c s h
  have hd : Hid (cutC c s = (s.extract 0 i, s.extract (i + 1) s.size, true)) := by
   unfold cutC
   rw [if_pos h, hi]
   exact Lib.hid rfl
  have HI : Hid (Lib.indexByte s.data.toList c = (i : Int)) := Lib.hid hi
  clear h hi
  have h0 : (0 : Int) ≤ i := by omega
  have h1 : (i : Int) ≤ s.size := by omega
  have h2 : (0 : Int) ≤ (i : Int) + 1 := by omega
  have h3 : (i : Int) + 1 ≤ s.size := by omega
  have h4 : IntKind.i64.wrap ((i : Int) + 1) = (i : Int) + 1 := IntWalk.i64_in _ (by omega)
  have h5 : ((i : Int) + 1).toNat = i + 1 := by omega
  go_enter Tryz.func67, Tryz.ntmps67
  go_wp2_with fail
  refine (Tryz.stringslite_Index_one s c _).mono ?_
  rintro e w' ⟨rfl, rfl⟩
  rw [HI.out]
  go_wp2_with fail
  go_quiet (fail)
  go_wp2_with fail
  refine bodyPost_ret (v := .tuple #[.string (s.extract 0 i), .string (s.extract (i + 1) s.size), .bool true]) (by simp [results, Tryz.results67, go_sem]) rfl ?_
  rw [hd.out]
  exact ⟨rfl, _, rfl⟩
 ·have hd : Hid (cutC c s = (s, ⟨#[]⟩, false)) := by
   unfold cutC
   rw [if_neg h]
   exact Lib.hid rfl
  have HI : Hid (Lib.indexByte s.data.toList c = -1) := Lib.hid (by have := Lib.indexByte_ge s.data.toList c; unfold cutAtC at h; omega)
  clear h
  go_enter Tryz.func67, Tryz.ntmps67
  go_wp2_with fail
  refine (Tryz.stringslite_Index_one s c _).mono ?_
  rintro e w' ⟨rfl, rfl⟩
  rw [HI.out]
  go_wp2_with fail
  refine bodyPost_ret (v := .tuple #[.string s, .string ⟨#[]⟩, .bool false]) (by simp [results, Tryz.results67, go_sem]) rfl ?_
  rw [hd.out]
  exact ⟨rfl, 0, rfl⟩
theorem cut_callsC (c : UInt8) (s : ByteArray) (hs : s.size ≤ 9223372036854775807) (w : World) :
 Calls Tryz.prog 36 #[.string s, .string ⟨#[c]⟩] w fun e w' => e = .returned (.tuple #[.string (cutC c s).1, .string (cutC c s).2.1, .bool (cutC c s).2.2]) ∧ ∃ n, w' = w.drewN n := by
 obtain ⟨⟨t1, t2, t3⟩, ht⟩ : ∃ t, cutC c s = t := ⟨_, rfl⟩
 have HT := Lib.hid ht
 clear ht
 go_enter Tryz.func36, Tryz.ntmps36
 go_wp2_with fail
 refine (cutB_callsC c s hs _).mono ?_
 rw [HT.out]
 rintro e w' ⟨rfl, n, rfl⟩
 go_wp2_with fail
 refine bodyPost_ret (v := .tuple #[.string t1, .string t2, .bool t3]) (by simp [results, Tryz.results36, go_sem]) rfl ?_
 rw [HT.out]
 exact ⟨rfl, _, rfl⟩
def Fp (t : ByteArray) : ByteArray := ⟨(Lib.trimLeftB t.data.toList 32).toArray⟩
def Et (t : ByteArray) : ByteArray := ⟨(Lib.trimB t.data.toList 32).toArray⟩
def Ff : ByteArray → ByteArray → List ByteArray → Option (ByteArray × List ByteArray)
 | line, last, [] => if onB last = true then none else some (line, [])
 | line, last, r :: rs => if onB last = true then Ff (line.extract 0 (line.size - 1) ++ Fp r) (Fp r) rs else some (line, r :: rs)
def firstIs (c : UInt8) (s : ByteArray) : Bool := s.data.toList.head? == some c
def Gc (out : List S59) (line : ByteArray) : List S59 :=
 if (Et line).size = 0 ∨ firstIs 35 (Et line) = true then out else out ++ [⟨firstIs 32 line, Et line⟩]
def E8 : Nat → List ByteArray → List S59 → List S59 × Int
 | 0, _, out => (out, 0)
 | _ + 1, [], out => (out, 0)
 | k + 1, r :: rs, out => match Ff r r rs with
  | none => ([], 600)
  | some p => E8 k p.2 (Gc out p.1)
def Ek : List UInt8 → List UInt8 → List (List UInt8)
 | cur, [] => [cur]
 | cur, c :: l => if c = 10 then cur :: Ek [] l else Ek (cur ++ [c]) l
def rowsOf (s : ByteArray) : List ByteArray := (Ek [] s.data.toList).dropLast.map fun l => ⟨l.toArray⟩
def Ef (s : ByteArray) : List S59 × Int := if mayB s = true then E8 (rowsOf s).length (rowsOf s) [] else ([], 600)
def Cx (rs : List ByteArray) : List UInt8 := rs.flatMap fun r => r.data.toList ++ [10]
def NoNl (rs : List ByteArray) : Prop := ∀ r ∈ rs, (10 : UInt8) ∉ r.data.toList
theorem Hy (r : ByteArray) (rs : List ByteArray) : Cx (r :: rs) = r.data.toList ++ (10 :: Cx rs) := by simp [Cx]
theorem index_row (a b : List UInt8) (h : (10 : UInt8) ∉ a) : Lib.indexByte (a ++ 10 :: b) 10 = (a.length : Nat) := by
 induction a with
 | nil => simp [Lib.indexByte]
 | cons c a ih =>
  have hc : ¬ c = 10 := fun e => h (by simp [e])
  have := ih (fun hm => h (List.mem_cons_of_mem _ hm))
  show (if (c == 10) = true then (0 : Int) else if Lib.indexByte (a ++ 10 :: b) 10 == -1 then -1 else Lib.indexByte (a ++ 10 :: b) 10 + 1) = _
  rw [this, if_neg (by simpa using hc)]
  rw [if_neg (by simp; try omega)]
  simp
theorem cut_row (r : ByteArray) (rs : List ByteArray) (h : (10 : UInt8) ∉ r.data.toList) : F9 ⟨(Cx (r :: rs)).toArray⟩ = (r, ⟨(Cx rs).toArray⟩, true) := by
 have hi : cutAtD ⟨(Cx (r :: rs)).toArray⟩ = (r.size : Nat) := by
  unfold cutAtD
  rw [Hy, Lib.size_eq]
  exact index_row _ _ h
 unfold F9
 rw [hi, if_pos (by omega), Int.toNat_natCast]
 have e1 : (⟨(Cx (r :: rs)).toArray⟩ : ByteArray).extract 0 r.size = r := by
  apply ByteArray.ext
  apply Array.toList_inj.1
  rw [Lib.extract_data, Hy]
  show ((r.data.toList ++ 10 :: Cx rs).drop 0).take (r.size - 0) = r.data.toList
  rw [List.drop_zero, Nat.sub_zero, Lib.size_eq, List.take_left]
 have e2 : (⟨(Cx (r :: rs)).toArray⟩ : ByteArray).extract (r.size + 1) (⟨(Cx (r :: rs)).toArray⟩ : ByteArray).size = ⟨(Cx rs).toArray⟩ := by
  apply ByteArray.ext
  apply Array.toList_inj.1
  rw [Lib.extract_to_end, Hy]
  show List.drop (r.size + 1) (r.data.toList ++ 10 :: Cx rs) = Cx rs
  rw [Lib.size_eq, List.drop_append]
  simp
 rw [e1, e2]
theorem split_unrows (l : List UInt8) : ∀ cur, (∃ x, (Ek cur l).dropLast.flatMap (fun r => r ++ [10]) ++ x = cur ++ l ∧ (Ek cur l).getLast? = some x) := by
 induction l with
 | nil => intro cur; exact ⟨cur, by simp [Ek], by simp [Ek]⟩
 | cons c l ih =>
  intro cur
  simp only [Ek]
  split
  ·rename_i hc
   subst hc
   obtain ⟨x, h1, h2⟩ := ih []
   have hne : Ek [] l ≠ [] := fun e => by rw [e] at h2; simp at h2
   refine ⟨x, ?_, ?_⟩
   ·rw [List.dropLast_cons_of_ne_nil hne, List.flatMap_cons, List.append_assoc, h1]
    simp
   ·rw [List.getLast?_cons, h2]
    rfl
  ·obtain ⟨x, h1, h2⟩ := ih (cur ++ [c])
   exact ⟨x, by rw [h1]; simp, h2⟩
theorem split_noNl (l : List UInt8) : ∀ cur, (10 : UInt8) ∉ cur → ∀ r ∈ Ek cur l, (10 : UInt8) ∉ r := by
 induction l with
 | nil => intro cur h r hr; simp [Ek] at hr; subst hr; exact h
 | cons c l ih =>
  intro cur h r hr
  simp only [Ek] at hr
  split at hr
  ·rcases List.mem_cons.1 hr with e | e
   ·subst e; exact h
   ·exact ih [] (by simp) r e
  ·rename_i hc
   exact ih (cur ++ [c]) (by simp [h]; exact fun e => hc e.symm) r hr
theorem rows_noNl (s : ByteArray) : NoNl (rowsOf s) := by
 intro r hr
 unfold rowsOf at hr
 obtain ⟨l, hl, rfl⟩ := List.mem_map.1 hr
 exact split_noNl s.data.toList [] (by simp) l (List.dropLast_subset _ hl)
theorem rows_unrows (s : ByteArray) (h : s.size = 0 ∨ Lib.hasSuffix s.data.toList [10] = true) : Cx (rowsOf s) = s.data.toList := by
 obtain ⟨x, h1, h2⟩ := split_unrows s.data.toList []
 have e : Cx (rowsOf s) = (Ek [] s.data.toList).dropLast.flatMap (fun r => r ++ [10]) := by
  unfold Cx rowsOf
  rw [List.flatMap_map]
 rw [List.nil_append] at h1
 have hx : (10 : UInt8) ∉ x := by
  have hm : x ∈ Ek [] s.data.toList := List.mem_of_getLast? h2
  exact split_noNl s.data.toList [] (by simp) x hm
 have : x = [] := by
  rcases h with h | h
  ·have hs : s.data.toList = [] := List.length_eq_zero_iff.1 (by rw [← Lib.size_eq]; exact h)
   rw [hs] at h1
   exact (List.append_eq_nil_iff.1 h1).2
  ·rw [← h1] at h
   unfold Lib.hasSuffix at h
   rw [List.isSuffixOf_iff_suffix] at h
   rcases List.eq_nil_or_concat x with e | ⟨y, c, e⟩
   ·exact e
   ·rw [List.concat_eq_append] at e
    rw [e, ← List.append_assoc] at h
    obtain ⟨t, ht⟩ := h
    have := congrArg List.getLast? ht
    simp at this
    exact absurd (by rw [e]; simp [this]) hx
 rw [this, List.append_nil] at h1
 rw [e, h1]
theorem front_size (t : ByteArray) : (Fp t).size ≤ t.size := by
 unfold Fp Lib.trimLeftB
 have := (List.dropWhile_sublist (l := t.data.toList) (fun c => c == (32 : UInt8))).length_le
 have e := Lib.size_eq t
 have e2 : (⟨(t.data.toList.dropWhile fun c => c == (32 : UInt8)).toArray⟩ : ByteArray).size = (t.data.toList.dropWhile fun c => c == (32 : UInt8)).length := by simp [ByteArray.size]
 omega
def U (rs : List ByteArray) : ByteArray := ⟨(Cx rs).toArray⟩
theorem U_size (rs : List ByteArray) : (U rs).size = (Cx rs).length := by simp [U, ByteArray.size]
theorem cut_U (r : ByteArray) (rs : List ByteArray) (h : (10 : UInt8) ∉ r.data.toList) : F9 (U (r :: rs)) = (r, U rs, true) := cut_row r rs h
theorem He (r : ByteArray) (rs : List ByteArray) : (Cx (r :: rs)).length = r.size + 1 + (Cx rs).length := by
 rw [Hy, List.length_append, List.length_cons, Lib.size_eq]; omega
theorem on_pos {s : ByteArray} (h : onB s = true) : 1 ≤ s.size := by
 have := tail_trim s.data.toList
 have e := Lib.size_eq s
 unfold onB at h
 have h2 : tailN s.data.toList % 2 = 1 := by simpa using h
 omega
theorem joinGo_off {line last : ByteArray} (qs : List ByteArray) (h : onB last = false) : Ff line last qs = some (line, qs) := by
 cases qs <;> simp [Ff, h]
theorem joinGo_none {line last : ByteArray} (h : onB last = true) : Ff line last [] = none := by simp [Ff, h]
theorem joinGo_on {line last : ByteArray} (q : ByteArray) (qs : List ByteArray) (h : onB last = true) : Ff line last (q :: qs) = Ff (line.extract 0 (line.size - 1) ++ Fp q) (Fp q) qs := by simp [Ff, h]
theorem linesGo_nil (k : Nat) (out : List S59) : E8 k [] out = (out, 0) := by cases k <;> rfl
def after (k : Nat) (out : List S59) : Option (ByteArray × List ByteArray) → List S59 × Int
 | none => ([], 600)
 | some p => E8 k p.2 (Gc out p.1)
theorem Ih (k : Nat) (r : ByteArray) (rs : List ByteArray) (out : List S59) : E8 (k + 1) (r :: rs) out = after k out (Ff r r rs) := by
 simp only [E8, after]
 first | done | (cases Ff r r rs <;> rfl)
def szOfD : Value → Nat
 | .string s => s.size
 | _ => 1048577
def RelD (w : World) (F : List S59 × Int) (v0 v4 : Value) (wr : World) : Prop :=
 ∃ (k : Nat) (rs : List ByteArray) (out : List S59), v0 = .string (U rs) ∧ NoNl rs ∧ rs.length ≤ k ∧ (Cx rs).length ≤ 2048 ∧ out.length + rs.length ≤ 2049 ∧ Kd.R k59 59 wr w.heap.size (fun _ => True) v4 out ∧ Below w.heap.size w wr ∧ E8 k rs out = F
def RelIn (wo : World) (J : Option (ByteArray × List ByteArray)) (rs : List ByteArray) (v5 v6 v8 : Value) (wq : World) : Prop :=
 ∃ (line last : ByteArray) (qs : List ByteArray), v5 = .string line ∧ v6 = .string (U qs) ∧ v8 = .string last ∧ NoNl qs ∧ qs.length ≤ rs.length ∧ (Cx qs).length ≤ (Cx rs).length ∧ last.size ≤ line.size ∧ line.size + (Cx qs).length ≤ 2048 ∧ Ff line last qs = J ∧ Ch wo wq
theorem trim_size (t : ByteArray) : (Et t).size ≤ t.size := by
 have h1 := (List.dropWhile_sublist (l := Lib.trimRightB t.data.toList 32) (fun c => c == (32 : UInt8))).length_le
 have h2 := (List.dropWhile_sublist (l := t.data.toList.reverse) (fun c => c == (32 : UInt8))).length_le
 have e := Lib.size_eq t
 have e2 : (Et t).size = ((Lib.trimRightB t.data.toList 32).dropWhile fun c => c == (32 : UInt8)).length := by simp [Et, Lib.trimB, Lib.trimLeftB, ByteArray.size]
 have e3 : (Lib.trimRightB t.data.toList 32).length = (t.data.toList.reverse.dropWhile fun c => c == (32 : UInt8)).length := by simp [Lib.trimRightB]
 rw [List.length_reverse] at h2
 omega
theorem first_get (c : UInt8) (s : ByteArray) (h : 0 < s.size) : firstIs c s = ((s[0].toNat : Int) == (c.toNat : Int)) := by
 have hd := E5 s 0 h
 rw [List.drop_zero] at hd
 unfold firstIs
 rw [hd, List.head?_cons, Bool.eq_iff_iff]
 simp only [beq_iff_eq, Option.some.injEq]
 constructor
 ·intro e; rw [e]
 ·intro e; exact UInt8.toNat_inj.1 (by omega)
theorem lines_calls (s : ByteArray) (hs : s.size ≤ 9223372036854775807) (w : World) :
 Calls Tryz.prog 18 #[.string s] w fun e w' => ∃ v : Value, e = .returned (.tuple #[v, .int .i64 (Ef s).2]) ∧ Kd.R k59 59 w' w.heap.size (fun _ => True) v (Ef s).1 ∧ Below w.heap.size w w' := by
 have HD : Hid (Ef s = if mayB s = true then E8 (rowsOf s).length (rowsOf s) [] else ([], 600)) := rfl
 cases hm : mayB s
 ·rw [hm, if_neg (by decide)] at HD
  have HM := Lib.hid hm
  clear hm
  go_enter Tryz.func18, Tryz.ntmps18
  go_wp2_with fail
  refine (linesMay_calls s hs _).mono ?_
  rw [HM.out]
  rintro e w1 ⟨rfl, hb1⟩
  go_wp2_with fail
  go_ret2
  rw [HD.out]
  exact ⟨_, rfl, Kd.Di _ _ _ _ _, hb1⟩
 ·rw [hm, if_pos rfl] at HD
  have hmm := hm
  unfold mayB at hmm
  simp only [Bool.and_eq_true, Bool.or_eq_true, decide_eq_true_eq] at hmm
  obtain ⟨h48, -, hend⟩ := hmm
  have hun := rows_unrows s hend
  have hU : s = U (rowsOf s) := by unfold U; rw [hun]
  have hnn := rows_noNl s
  have hlu : (Cx (rowsOf s)).length ≤ 2048 := by rw [hun, ← Lib.size_eq]; exact h48
  have hlr : (rowsOf s).length ≤ (Cx (rowsOf s)).length := by
   generalize rowsOf s = rs
   induction rs with
   | nil => simp
   | cons r rs ih => rw [He]; simp; omega
  obtain ⟨F, hF⟩ : ∃ F, E8 (rowsOf s).length (rowsOf s) [] = F := ⟨_, rfl⟩
  rw [hF] at HD
  have HM := Lib.hid hm
  have HST := Aa.mk (show (∃ rs : List ByteArray, Value.string s = .string (U rs) ∧ NoNl rs ∧ (Cx rs).length ≤ 2048 ∧ rs.length ≤ 2048 ∧ E8 rs.length rs [] = F) from ⟨rowsOf s, by rw [← hU], hnn, hlu, by omega, hF⟩)
  clear hm hF hend hun hU hnn hlu hlr
  go_enter Tryz.func18, Tryz.ntmps18
  go_wp2_with fail
  refine (linesMay_calls s hs _).mono ?_
  rw [HM.out]
  rintro e w1 ⟨rfl, hb1⟩
  have HB1 := Aa.mk hb1
  clear hb1
  go_wp2_with fail
  go_loopw [0, 4] (fun v0 v4 wr => RelD w F v0 v4 wr) (fun v0 v4 _ => szOfD v0)
  case atStart =>
   obtain ⟨rs, e, h1, h2, h3, h4⟩ := HST.out
   exact ⟨rs.length, rs, [], e, h1, Nat.le_refl _, h2, by simp; omega, Kd.Di _ _ _ _ _, HB1.out, h4⟩
  case round =>
   clear HST HB1 hs h48 HM
   obtain ⟨k, rs, out, rfl, hnn, hk, hlu, hlo, hR, hbel, hgo⟩ := hrel
   obtain ⟨A, c, hv4⟩ := Kd.Bd hR
   subst hv4
   cases rs with
   | nil =>
    rw [linesGo_nil] at hgo
    have HF := Lib.hid hgo
    have HR := Aa.mk hR
    have hn : (U []).toList = [] := Fg (by rw [U_size]; simp [Cx])
    clear hgo hR
    go_wp2_with fail
    go_ret2
    rw [HD.out, ← HF.out]
    exact ⟨_, rfl, HR.out, hbel⟩
   | cons r rs =>
    obtain ⟨k, rfl⟩ : ∃ m, k = m + 1 := ⟨k - 1, by simp at hk; omega⟩
    rw [Ih] at hgo
    have hr : (10 : UInt8) ∉ r.data.toList := hnn r (by simp)
    have hnr : NoNl rs := fun q hq => hnn q (by simp [hq])
    have hul := He r rs
    have hsz := U_size (r :: rs)
    have hn : ((U (r :: rs)).toList == []) = false := beq_eq_false_iff_ne.2 (E2 (by omega))
    have HCUT := Lib.hid (cut_U r rs hr)
    obtain ⟨J, hJ⟩ : ∃ J, Ff r r rs = J := ⟨_, rfl⟩
    rw [hJ] at hgo
    have HGO := Lib.hid hgo
    have HJ := Lib.hid hJ
    have HR := Aa.mk hR
    have HNR := Aa.mk hnr
    have hk2 : rs.length ≤ k := by simpa using hk
    have hlo2 : out.length + rs.length + 1 ≤ 2049 := by simp at hlo; omega
    have hlu2 : r.size + (Cx rs).length ≤ 2048 := by omega
    have hsl : (U (r :: rs)).size ≤ 9223372036854775807 := by omega
    have hdec : (Cx rs).length < (U (r :: rs)).size := by omega
    have HBW := Aa.mk hbel
    clear hgo hJ hR hnr hnn hr hk hlo hlu hul hbel hsz
    generalize U (r :: rs) = V at *
    go_wp2_with fail
    refine (cut_calls V hsl _).mono ?_
    rw [HCUT.out]
    rintro e w2 ⟨rfl, n, rfl⟩
    have HR2 := Aa.mk (Kd.Cc HR.out n)
    have HBW2 := Aa.mk (Cu HBW.out n)
    clear HR HBW HCUT
    generalize wr.drewN n = wo at *
    go_wp2_with fail
    go_loopw [5, 6, 8] (fun v5 v6 v8 wq => RelIn wo J rs v5 v6 v8 wq) (fun v5 v6 v8 _ => szOfD v6)
    case atStart => exact ⟨r, r, rs, rfl, rfl, rfl, HNR.out, Nat.le_refl _, Nat.le_refl _, Nat.le_refl _, hlu2, HJ.out, Ch.refl _⟩
    case round =>
     clear HJ
     obtain ⟨line, last, qs, rfl, rfl, rfl, hnq, hql, hqu, hll, hlq, hj, ⟨m, hm⟩⟩ := hrel
     subst hm
     have HR3 := Aa.mk (Kd.Cc HR2.out m)
     have HBW3 := Aa.mk (Cu HBW2.out m)
     have hD3 := Aa.mk (show Ch wo (wo.drewN m) from ⟨m, rfl⟩)
     clear HR2 HBW2
     generalize wo.drewN m = wq at *
     have HNQ := Aa.mk hnq
     have HJ := Lib.hid hj
     clear hnq hj
     cases hon : onB last
     ·have hJ : some (line, qs) = J := by rw [← HJ.out, joinGo_off qs hon]
      have HF := Lib.hid (show E8 k qs (Gc out line) = F from by rw [← HGO.out, ← hJ]; rfl)
      have HON := Lib.hid hon
      obtain ⟨T, hT⟩ : ∃ T, Et line = T := ⟨_, rfl⟩
      have hTz := trim_size line
      have HA : Hid (Gc out line = if T.size = 0 ∨ firstIs 35 T = true then out else out ++ [⟨firstIs 32 line, T⟩]) := Lib.hid (by unfold Gc; rw [hT])
      rw [hT] at hTz
      have HT : Hid ((⟨(Lib.trimB line.data.toList 32).toArray⟩ : ByteArray) = T) := Lib.hid hT
      have hql2 : qs.length ≤ k := by omega
      have hqd : (U qs).size < V.size := by rw [U_size]; omega
      have hlu3 : (Cx qs).length ≤ 2048 := by omega
      clear hon hJ HJ HGO hT
      go_wp2_with fail
      refine (on_calls last (by omega) _).mono ?_
      rw [HON.out]
      rintro e w3 ⟨rfl, rfl⟩
      go_wp2_with fail
      refine (Tryz.strings_Trim_one line 32 (by decide) _ (by omega)).mono ?_
      rw [HT.out]
      rintro e w4 ⟨rfl, hw⟩
      have hd : ∃ n, w4 = wq.drewN n := by
       rcases hw with h | h
       ·exact ⟨0, h⟩
       ·exact ⟨1, h⟩
      obtain ⟨n4, rfl⟩ := hd
      have HR4 := Aa.mk (Kd.Cc HR3.out n4)
      have HBW4 := Aa.mk (Cu HBW3.out n4)
      clear hw HR3 HBW3 hD3
      generalize wq.drewN n4 = wz at *
      by_cases h0 : T.size = 0
      ·have hn0 : T.toList = [] := Fg (by omega)
       rw [if_pos (Or.inl h0)] at HA
       go_wp2_with fail
       exact ⟨⟨k, qs, out, rfl, HNQ.out, hql2, hlu3, by omega, HR4.out, HBW4.out, by rw [← HA.out]; exact HF.out⟩, hqd⟩
      ·have hn0 : (T.toList == []) = false := beq_eq_false_iff_ne.2 (E2 (by omega))
       have hT0 : 0 < T.size := by omega
       have hl0 : 0 < line.size := by omega
       have hf35 := first_get 35 T hT0
       have hf32 := Lib.hid (first_get 32 line hl0)
       cases hc : firstIs 35 T
       ·rw [if_neg (by rw [hc]; simp [h0])] at HA
        rw [hc] at hf35
        have hb1 : ((T[0].toNat : Int) == 35) = false := hf35.symm
        have hb2 : ((T[0].toNat : Int) != 35) = true := by rw [bne, hb1]; rfl
        clear hf35 hc
        rw [hf32.out] at HA
        go_wp2_with (first | ((with_reducible refine Cz (b := .append) (xs := #[.tmp 51, .tmp 57]) rfl ?_); at_builtin; refine Kd.Ep k59 (w0 := w) w.heap.size rfl (.tmp 51) (.tmp 57) 49 59 (.agg #[(.bool false), (.string ⟨#[]⟩)]) 24 rfl Tryz.underlying49 info59 rfl (by decide) (by omega) (.slice A out.length c) out (⟨((line[0].toNat : Int) == 32), T⟩ : S59) [.bool ((line[0].toNat : Int) == 32), .string T] (fun _ => True) (fun _ => False) rfl rfl (k59_mkM _ _ _ (⟨((line[0].toNat : Int) == 32), T⟩ : S59)) (fun _ hk => hk.elim) (fun _ _ => trivial) HR4.out HBW4.out HBW4.out.size (by omega) ?_; intro v5 w5 ho5 hb5 hg hat; clear hg hat))
        exact ⟨⟨k, qs, _, rfl, HNQ.out, hql2, hlu3, by rw [List.length_append, List.length_singleton]; omega, ho5, hb5, by rw [← HF.out, HA.out]; rfl⟩, hqd⟩
       ·rw [if_pos (Or.inr hc)] at HA
        rw [hc] at hf35
        have hb1 : ((T[0].toNat : Int) == 35) = true := hf35.symm
        have hb2 : ((T[0].toNat : Int) != 35) = false := by rw [bne, hb1]; rfl
        clear hf35 hc
        go_wp2_with fail
        exact ⟨⟨k, qs, out, rfl, HNQ.out, hql2, hlu3, by omega, HR4.out, HBW4.out, by rw [← HA.out]; exact HF.out⟩, hqd⟩
     ·have HON := Lib.hid hon
      have hlp := on_pos hon
      cases qs with
      | nil =>
       have HF := Lib.hid (show (([] : List S59), (600 : Int)) = F from by rw [← HGO.out, ← HJ.out, joinGo_none hon]; rfl)
       have hn1 : (U []).toList = [] := Fg (by rw [U_size]; simp [Cx])
       clear hon
       go_wp2_with fail
       refine (on_calls last (by omega) _).mono ?_
       rw [HON.out]
       rintro e w3 ⟨rfl, rfl⟩
       go_wp2_with fail
       go_ret2
       rw [HD.out, ← HF.out]
       exact ⟨_, rfl, Kd.Di _ _ _ _ _, HBW3.out⟩
      | cons q qs =>
       have hJ : Ff (line.extract 0 (line.size - 1) ++ Fp q) (Fp q) qs = J := by rw [← HJ.out, joinGo_on q qs hon]
       have hq10 : (10 : UInt8) ∉ q.data.toList := HNQ.out q (by simp)
       have hnq2 : NoNl qs := fun x hx => HNQ.out x (by simp [hx])
       have HCUT := Lib.hid (cut_U q qs hq10)
       have hul := He q qs
       have hsz := U_size (q :: qs)
       have hfz := front_size q
       have HFR : Hid ((⟨(Lib.trimLeftB q.data.toList 32).toArray⟩ : ByteArray) = Fp q) := rfl
       have hn1 : ((U (q :: qs)).toList == []) = false := beq_eq_false_iff_ne.2 (E2 (by omega))
       have hdec2 : (U qs).size < (U (q :: qs)).size := by rw [U_size]; omega
       have HJ2 := Lib.hid hJ
       have HNQ2 := Aa.mk hnq2
       have hql2 : qs.length ≤ rs.length := by simp at hql; omega
       have hqu2 : (Cx qs).length ≤ (Cx rs).length := by omega
       have hlq2 : line.size + q.size + (Cx qs).length + 1 ≤ 2048 := by omega
       have hvs : (U (q :: qs)).size ≤ 9223372036854775807 := by omega
       clear hon hJ HJ hq10 hnq2 HNQ hul hsz hql hqu hlq
       generalize Fp q = fq at *
       generalize U (q :: qs) = V2 at *
       have hl1 : (1 : Int) ≤ (line.size : Int) := by omega
       go_wp2_with fail
       refine (on_calls last (by omega) _).mono ?_
       rw [HON.out]
       rintro e w3 ⟨rfl, rfl⟩
       go_wp2_with fail
       refine (cut_calls V2 hvs _).mono ?_
       rw [HCUT.out]
       rintro e w4 ⟨rfl, n, rfl⟩
       go_wp2_with fail
       refine (Tryz.strings_TrimLeft_one q 32 (by decide) _).mono ?_
       rw [HFR.out]
       rintro e w5 ⟨rfl, hw5⟩
       rw [hw5]
       clear hw5
       have hcz : (line.extract 0 (line.size - 1) ++ fq).size = line.size - 1 + fq.size := by rw [ByteArray.size_append, ByteArray.size_extract]; omega
       have HD5 := Aa.mk (show Ch wo (wq.drewN n) from hD3.out.step n)
       go_wp2_with fail
       exact ⟨⟨_, _, qs, rfl, rfl, rfl, HNQ2.out, hql2, hqu2, by rw [hcz]; omega, by rw [hcz]; omega, HJ2.out, HD5.out⟩, hdec2⟩
def Bt (s : ByteArray) : ByteArray × ByteArray × Bool := (Et (cutC 61 s).1, Et (cutC 61 s).2.1, (cutC 61 s).2.2 && Ce (Et (cutC 61 s).1))
theorem trim_calls (s : ByteArray) (hs : s.size ≤ 9223372036854775807) (w : World) :
 Calls Tryz.prog 39 #[.string s, .string ⟨#[32]⟩] w fun e w' => e = .returned (.string (Et s)) ∧ Below w.heap.size w w' := by
 refine (Tryz.strings_Trim_one s 32 (by decide) w hs).mono ?_
 rintro e w' ⟨rfl, h⟩
 refine ⟨rfl, ?_⟩
 rcases h with rfl | rfl
 ·exact Below.refl _ _
 ·exact (Below.refl _ _).drew
theorem Cf {w w1 : World} {B : Nat} {vE vP vD vO vR fd fo : Value} {e : Int} (h : Pb w B vE vP vD vO vR fd fo e) (hb : Below w.heap.size w w1) : Pb w1 B vE vP vD vO vR fd fo e := Aj h hb
theorem bind_calls (B : Nat) (vE vP vD vO vR fd fo : Value) (e : Int) (s : ByteArray) (hs : s.size ≤ 1048576) (w : World) (h : Pb w B vE vP vD vO vR fd fo e) :
 Calls Tryz.prog 41 #[.pointer (some ⟨B, 0, none⟩), .string s] w fun x w' => x = .returned (.tuple #[.string (Bt s).1, .string (Bt s).2.1]) ∧ Pb w' B vE vP vD vO vR fd fo (B9 e (Bt s).2.2) ∧ Kept w w' (fun k => k = B) ∧ ∀ base, base ≤ B → Below base w w' := by
 have H := Lib.hid h
 have hB := Lib.hid (Cq h)
 clear h
 have hbb : Bt s = (Et (cutC 61 s).1, Et (cutC 61 s).2.1, (cutC 61 s).2.2 && Ce (Et (cutC 61 s).1)) := rfl
 have HCC := Lib.hid (cut_callsC 61 s (by omega) w)
 have hl1 : Hid ((cutC 61 s).1.size ≤ 9223372036854775807) := Lib.hid (by
  unfold cutC
  split
  ·simp; omega
  ·show s.size ≤ _
   omega)
 have hl2 : Hid ((cutC 61 s).2.1.size ≤ 9223372036854775807) := Lib.hid (by
  unfold cutC
  split
  ·simp; omega
  ·exact Nat.zero_le _)
 rw [hbb]
 clear hbb
 obtain ⟨⟨t1, t2, t3⟩, ht⟩ : ∃ t, cutC 61 s = t := ⟨_, rfl⟩
 rw [ht] at HCC hl1 hl2 ⊢
 simp only at HCC hl1 hl2 ⊢
 clear ht
 obtain ⟨M, hM⟩ : ∃ M, Ce (Et t1) = M := ⟨_, rfl⟩
 have HM := Lib.hid hM
 rw [hM]
 clear hM
 cases t3
 ·rw [Bool.false_and]
  go_enter Tryz.func41, Tryz.ntmps41
  go_wp2_with (go_at_call 36; refine HCC.out.mono ?_; rintro x w1 ⟨rfl, n, rfl⟩; have HD1 := Aa.mk (Cu (Below.refl w.heap.size w) n))
  refine (trim_calls t1 hl1.out _).mono ?_
  rintro x w2 ⟨rfl, hb⟩
  have HB2 := Aa.mk (HD1.out.trans hb)
  clear hb HD1
  go_wp2_with fail
  refine (C6 B vE vP vD vO vR fd fo e false _ (Cf H.out HB2.out)).mono ?_
  rintro x w3 ⟨rfl, hp, hk, hb⟩
  have HP3 := Aa.mk hp
  have HK3 := Aa.mk hk
  have HB3 := Aa.mk hb
  clear hp hk hb
  go_wp2_with fail
  refine (trim_calls t2 hl2.out _).mono ?_
  rintro x w4 ⟨rfl, hb⟩
  have HB4 := Aa.mk hb
  clear hb
  go_wp2_with fail
  go_ret2
  exact ⟨rfl, Cf HP3.out HB4.out, (Kept.then_ (Kept.of_below HB2.out _) HK3.out (fun k hk => .inl hk)).below HB4.out, fun base hb => ((HB2.out.mono (Nat.le_trans hb (Nat.le_of_lt hB.out))).trans (HB3.out base hb)).trans (HB4.out.mono (Nat.le_trans hb (Nat.le_of_lt (Cq HP3.out))))⟩
 ·rw [Bool.true_and]
  go_enter Tryz.func41, Tryz.ntmps41
  go_wp2_with (go_at_call 36; refine HCC.out.mono ?_; rintro x w1 ⟨rfl, n, rfl⟩; have HD1 := Aa.mk (Cu (Below.refl w.heap.size w) n))
  refine (trim_calls t1 hl1.out _).mono ?_
  rintro x w2 ⟨rfl, hb⟩
  have HB2 := Aa.mk (HD1.out.trans hb)
  clear hb HD1
  go_wp2_with fail
  refine (Gl _ _).mono ?_
  rintro x w2' ⟨rfl, hb⟩
  have HB2' := Aa.mk (HB2.out.trans (hb.mono HB2.out.size))
  clear hb
  rw [HM.out]
  go_wp2_with fail
  refine (C6 B vE vP vD vO vR fd fo e M _ (Cf H.out HB2'.out)).mono ?_
  rintro x w3 ⟨rfl, hp, hk, hb⟩
  have HP3 := Aa.mk hp
  have HK3 := Aa.mk hk
  have HB3 := Aa.mk hb
  clear hp hk hb
  go_wp2_with fail
  refine (trim_calls t2 hl2.out _).mono ?_
  rintro x w4 ⟨rfl, hb⟩
  have HB4 := Aa.mk hb
  clear hb
  go_wp2_with fail
  go_ret2
  exact ⟨rfl, Cf HP3.out HB4.out, (Kept.then_ (Kept.of_below HB2'.out _) HK3.out (fun k hk => .inl hk)).below HB4.out, fun base hb => ((HB2'.out.mono (Nat.le_trans hb (Nat.le_of_lt hB.out))).trans (HB3.out base hb)).trans (HB4.out.mono (Nat.le_trans hb (Nat.le_of_lt (Cq HP3.out))))⟩
theorem cell_heap {w2 w3 : World} {b o : Nat} (h : w3.heap[b]? = w2.heap[b]?) : w3.cell? ⟨b, o, none⟩ = w2.cell? ⟨b, o, none⟩ := by simp [World.cell?, h]
def oneOk (ws : List ByteArray) : Bool := match ws with
 | [x] => Ce x
 | _ => false
def oneName (ws : List ByteArray) : ByteArray := match ws with
 | [x] => x
 | _ => ⟨#[]⟩
def oneW (e : Int) (rest : ByteArray) : ByteArray × Int := (if B9 e (oneOk (Cj rest)) = 0 then oneName (Cj rest) else ⟨#[]⟩, B9 e (oneOk (Cj rest)))
theorem one_calls (B : Nat) (vE vP vD vO vR fd fo : Value) (e : Int) (s : ByteArray) (hs : s.size ≤ 1048576) (w : World) (h : Pb w B vE vP vD vO vR fd fo e) :
 Calls Tryz.prog 77 #[.pointer (some ⟨B, 0, none⟩), .string s] w fun x w' => x = .returned (.string (oneW e s).1) ∧ Pb w' B vE vP vD vO vR fd fo (oneW e s).2 ∧ Kept w w' (fun k => k = B) ∧ ∀ base, base ≤ B → Below base w w' := by
 have H := Lib.hid h
 have hB := Lib.hid (Cq h)
 clear h
 have hbb : oneW e s = (if B9 e (oneOk (Cj s)) = 0 then oneName (Cj s) else ⟨#[]⟩, B9 e (oneOk (Cj s))) := rfl
 have HWS := Lib.hid (words_calls s hs w)
 rw [hbb]
 clear hbb
 generalize Cj s = ws at *
 obtain ⟨E, hE⟩ : ∃ E, B9 e (oneOk ws) = E := ⟨_, rfl⟩
 obtain ⟨K, hK⟩ : ∃ K, oneOk ws = K := ⟨_, rfl⟩
 rw [hK] at hE ⊢
 rw [hE]
 have HE := Lib.hid hE
 clear hE
 by_cases hone : ∃ x, ws = [x]
 ·obtain ⟨x, rfl⟩ := hone
  have hKM : Ce x = K := hK
  have HKM := Lib.hid hKM
  clear hKM hK
  go_enter Tryz.func77, Tryz.ntmps77
  go_wp2_with (go_at_call 91; refine HWS.out.mono ?_; rintro y w1 ⟨v, rfl, hR, hb⟩; obtain ⟨A, c, rfl⟩ := Kd.Bd hR; obtain ⟨b, off, rfl, hx⟩ := Vs_head (Vs_of_R hR); have hbn := Kd.F_in (Kd.V_F (Vs_of_R (Kd.Ex hR)).1) rfl (by simp) (by decide); have HB1 := Aa.mk hb; clear hR hb)
  refine (Gl _ _).mono ?_
  rintro y w2 ⟨rfl, hb⟩
  rw [HKM.out]
  have hx2 := Be hb hx
  have HB2 := Aa.mk (HB1.out.trans (hb.mono HB1.out.size))
  have hsz2 := hb.size
  clear hb hx
  go_wp2_with fail
  refine (C6 B vE vP vD vO vR fd fo e K _ (Cf H.out HB2.out)).mono ?_
  rw [HE.out]
  rintro y w3 ⟨rfl, hp, hk, hb⟩
  have HP3 := Aa.mk hp
  have HK3 := Aa.mk hk
  have HB3 := Aa.mk hb
  obtain ⟨_, _, _, _, _, _, _, c7, _⟩ := pb_cells hp
  have hx3 : w3.cell? ⟨b, off, none⟩ = some (.string x) := by
   rw [cell_heap (hk.2 b (Nat.lt_of_lt_of_le hbn.2.2.1 hsz2) (fun e => by have := hbn.2.1; have := hB.out; have e' : b = B := e; omega))]
   exact hx2
  clear hp hk hb hx2
  by_cases h0 : E = 0
  ·subst h0
   go_wp2_with fail
   go_ret
   exact ⟨rfl, HP3.out, Kept.then_ (Kept.of_below HB2.out _) HK3.out (fun k hk => .inl hk), fun base hb => (HB2.out.mono (Nat.le_trans hb (Nat.le_of_lt hB.out))).trans (HB3.out base hb)⟩
  ·have h0b : (E != 0) = true := bne_iff_ne.2 h0
   go_wp2_with fail
   go_ret
   exact ⟨rfl, HP3.out, Kept.then_ (Kept.of_below HB2.out _) HK3.out (fun k hk => .inl hk), fun base hb => (HB2.out.mono (Nat.le_trans hb (Nat.le_of_lt hB.out))).trans (HB3.out base hb)⟩
 ·have hK2 : K = false := by
   rw [← hK]
   unfold oneOk
   split
   ·exact absurd ⟨_, rfl⟩ hone
   ·rfl
  have hne : ((ws.length : Int) == 1) = false := beq_eq_false_iff_ne.2 (fun e => hone (by
   match ws, e with
   | [x], _ => exact ⟨x, rfl⟩
   | [], e => simp at e
   | _ :: _ :: _, e => simp only [List.length_cons] at e; omega))
  subst hK2
  have hE0 : ¬ E = 0 := by
   rw [← HE.out]
   unfold B9
   split
   ·decide
   ·rename_i h0
    exact fun h1 => h0 ⟨rfl, h1⟩
  have h0b : (E != 0) = true := bne_iff_ne.2 hE0
  clear hK hone
  go_enter Tryz.func77, Tryz.ntmps77
  go_wp2_with (go_at_call 91; refine HWS.out.mono ?_; rintro y w1 ⟨v, rfl, hR, hb⟩; obtain ⟨A, c, rfl⟩ := Kd.Bd hR; have HB2 := Aa.mk hb; clear hR hb)
  refine (C6 B vE vP vD vO vR fd fo e false _ (Cf H.out HB2.out)).mono ?_
  rw [HE.out]
  rintro y w3 ⟨rfl, hp, hk, hb⟩
  have HP3 := Aa.mk hp
  have HK3 := Aa.mk hk
  have HB3 := Aa.mk hb
  obtain ⟨_, _, _, _, _, _, _, c7, _⟩ := pb_cells hp
  clear hp hk hb
  go_wp2_with fail
  go_ret
  exact ⟨rfl, HP3.out, Kept.then_ (Kept.of_below HB2.out _) HK3.out (fun k hk => .inl hk), fun base hb => (HB2.out.mono (Nat.le_trans hb (Nat.le_of_lt hB.out))).trans (HB3.out base hb)⟩
structure S116 where
 f0 : ByteArray
 f1 : ByteArray
 f2 : ByteArray
 f3 : Bool
 f4 : Bool
def z116 : S116 := ⟨⟨#[]⟩, ⟨#[]⟩, ⟨#[]⟩, false, false⟩
def k116 : Kd S116 := Kd.iso (Kd.pair Kd.string (Kd.pair Kd.string (Kd.pair Kd.string (Kd.pair Kd.bool Kd.bool)))) (fun x : S116 => (x.f0, x.f1, x.f2, x.f3, x.f4))
theorem info116 : (Tryz.prog.info? 116).map (fun i => (i.zero, i.size, i.bytes)) = some (some (.agg #[.string ⟨#[]⟩, .string ⟨#[]⟩, .string ⟨#[]⟩, .bool false, .bool false]), 5, 56) := by kernel_rfl
theorem k116_open {w : World} {x : S116} {cs : List Value} (h : k116.K w x cs) : cs = [.string x.f0, .string x.f1, .string x.f2, .bool x.f3, .bool x.f4] := by
 obtain ⟨_, _, rfl, rfl, ⟨_, _, rfl, rfl, ⟨_, _, rfl, rfl, ⟨_, _, rfl, rfl, rfl⟩⟩⟩⟩ := h
 exact rfl
theorem k116_openM {w : World} {base : Nat} {ok : Nat → Prop} {x : S116} {cs : List Value} (h : k116.M w base ok x cs) : cs = [.string x.f0, .string x.f1, .string x.f2, .bool x.f3, .bool x.f4] := by
 obtain ⟨_, _, rfl, rfl, ⟨_, _, rfl, rfl, ⟨_, _, rfl, rfl, ⟨_, _, rfl, rfl, rfl⟩⟩⟩⟩ := h
 exact rfl
theorem k116_mkM (w : World) (base : Nat) (ok : Nat → Prop) (x : S116) : k116.M w base ok x [.string x.f0, .string x.f1, .string x.f2, .bool x.f3, .bool x.f4] := ⟨[.string x.f0], _, rfl, rfl, ⟨[.string x.f1], _, rfl, rfl, ⟨[.string x.f2], _, rfl, rfl, ⟨[.bool x.f3], [.bool x.f4], rfl, rfl, rfl⟩⟩⟩⟩
def Eh (xs : List S116) (i : Int) : S116 := xs.getD i.toNat z116
theorem at_T116 {w : World} {A : Option Addr} {n : Nat} {xs : List S116} (h : Kd.C k116 w A n xs) (i : Int) (h0 : 0 ≤ i) (h1 : i < n) : ∃ ad, A = some ad ∧ w.cell? (ad.add (i.toNat * 5)) = some (.string (Eh xs i).f0) ∧ w.cell? ⟨(ad.add (i.toNat * 5)).block, (ad.add (i.toNat * 5)).off + 1, none⟩ = some (.string (Eh xs i).f1) ∧ w.cell? ⟨(ad.add (i.toNat * 5)).block, (ad.add (i.toNat * 5)).off + 2, none⟩ = some (.string (Eh xs i).f2) ∧ w.cell? ⟨(ad.add (i.toNat * 5)).block, (ad.add (i.toNat * 5)).off + 3, none⟩ = some (.bool (Eh xs i).f3) ∧ w.cell? ⟨(ad.add (i.toNat * 5)).block, (ad.add (i.toNat * 5)).off + 4, none⟩ = some (.bool (Eh xs i).f4) := by
 obtain ⟨ad, c, e, _, hK, hc0⟩ := Kd.C_get h z116 i h0 h1
 have hc : ∀ j u, c[j]? = some u → w.cell? (ad.add (i.toNat * 5 + j)) = some u := hc0
 obtain rfl := k116_open hK
 exact ⟨ad, e, hc 0 _ rfl, by rw [← D9 _ _ 1 (by omega)]; exact hc 1 _ rfl, by rw [← D9 _ _ 2 (by omega)]; exact hc 2 _ rfl, by rw [← D9 _ _ 3 (by omega)]; exact hc 3 _ rfl, by rw [← D9 _ _ 4 (by omega)]; exact hc 4 _ rfl⟩
theorem find1_116_calls (x : S116) (s : ByteArray) (b : Nat) (w : World) (hb : b < w.heap.size) (hc : w.cell? ⟨b, 0, none⟩ = some (.string s)) :
 Calls Tryz.prog 110 #[.agg #[.string x.f0, .string x.f1, .string x.f2, .bool x.f3, .bool x.f4], .pointer (some ⟨b, 0, none⟩)] w fun e w' => e = .returned (.bool (x.f0.toList == s.toList)) ∧ Below w.heap.size w w' := by
 have hne : b ≠ w.heap.size := by omega
 go_enter Tryz.func110, Tryz.ntmps110
 go_wp2
 go_ret
 exact ⟨rfl, (Below.refl _ _).alloc (Nat.le_refl _) _⟩
theorem rd_at116 (l : List S116) (k : Nat) (h : k < l.length) : Eh l (k : Int) = l[k] := by simp [Eh, List.getD_eq_getElem?_getD, h]
theorem index116_calls (A0 : Option Addr) (c0 : Nat) (l : List S116) (s : ByteArray) (b : Nat) (w : World) (hr : Kd.C k116 w A0 l.length l) (hb : b < w.heap.size) (hc : w.cell? ⟨b, 0, none⟩ = some (.string s)) :
 Calls Tryz.prog 109 #[.slice A0 l.length c0, .func (.func 110) #[] #[.pointer (some ⟨b, 0, none⟩)]] w fun e w' => e = .returned (.int .i64 (idxP (fun x : S116 => x.f0.toList == s.toList) l)) ∧ Below w.heap.size w w' := by
 have HR := Aa.mk hr
 have HC := Aa.mk hc
 have hm := Hb hr
 clear hr hc
 have eg : ∀ args w, (callFunc 110 args).run Tryz.prog w = .ok (.enter 110 args) w := enters_of Tryz.func110 (by kernel_rfl) rfl
 generalize hp : (fun x : S116 => x.f0.toList == s.toList) = p
 have HPP := Lib.hid hp
 go_enter Tryz.func109, Tryz.ntmps109
 go_wp2
 go_loopw [8] (fun v8 wr => ∃ k : Nat, v8 = .int .i64 k ∧ k ≤ l.length ∧ Aa (Dy p (l.drop k) k = idxP p l) ∧ Below w.heap.size w wr) (fun v8 _ => l.length - (intOf v8).toNat)
 case atStart => exact ⟨0, rfl, by omega, ⟨rfl⟩, Below.refl _ _⟩
 case round =>
  obtain ⟨k, rfl, hk, hf, hbw⟩ := hrel
  by_cases hlt : k < l.length
  ·obtain ⟨ad, rfl, f0, f1, f2, f3, f4⟩ := at_T116 (Kd.Bb HR.out hbw) (k : Int) (by omega) (by omega)
   have hq := Lib.hid (Gm p l k hlt)
   rw [rd_at116 l k hlt] at f0 f1 f2 f3 f4
   simp only [Int.toNat_natCast] at f0 f1 f2 f3 f4
   generalize l[k] = x at *
   have hcl := find1_116_calls x s b wr (Nat.lt_of_lt_of_le hb hbw.size) ((hbw.cell (p := ⟨b, 0, none⟩) hb).trans HC.out)
   rw [show (x.f0.toList == s.toList) = p x from by rw [← HPP.out]] at hcl
   cases hpx : p x
   ·rw [hpx] at hcl
    have Hcl := Lib.hid hcl
    clear hcl
    go_wp2_with (first | (go_at_fn 110; refine Hcl.out.mono ?_; rintro e w' ⟨rfl, hb2⟩))
    exact ⟨⟨k + 1, by go_num, by omega, ⟨by rw [← hf.out, hq.out, if_neg (by rw [hpx]; decide)]⟩, bel hbw hb2⟩, by simp [intOf]; omega⟩
   ·rw [hpx] at hcl
    have Hcl := Lib.hid hcl
    clear hcl
    go_wp2_with (first | (go_at_fn 110; refine Hcl.out.mono ?_; rintro e w' ⟨rfl, hb2⟩))
    go_ret
    exact ⟨Hq (by rw [← hf.out, hq.out, if_pos hpx]), bel hbw hb2⟩
  ·have hd : l.drop k = [] := List.drop_of_length_le (by omega)
   have hq := Lib.hid hd
   clear hd
   go_wp2
   go_ret
   exact ⟨Hq (by rw [← hf.out, hq.out]; rfl), hbw⟩
theorem pfind_calls (B : Nat) (vE vP vD vO vR fd fo : Value) (e : Int) (A : Option Addr) (c : Nat) (l : List S116) (s : ByteArray) (w : World) (h : Pb w B vE vP vD vO vR fd fo e) (hv : vR = .slice A l.length c) (hC : Kd.C k116 w A l.length l) :
 Calls Tryz.prog 78 #[.pointer (some ⟨B, 0, none⟩), .string s] w fun x w' => x = .returned (.int .i64 (idxP (fun x : S116 => x.f0.toList == s.toList) l)) ∧ Below w.heap.size w w' := by
 have hmf : ∀ (fn : Fn) (first cap : Array Value) (w : World), (Instr.makeFunc fn first cap).run Tryz.prog w = .ok (.func fn first cap) w := fun _ _ _ _ => rfl
 have hB := Cq h
 subst hv
 obtain ⟨c0, c1, c2, c3, c4, _, _, _, _⟩ := pb_cells h
 have hne : B ≠ w.heap.size := by omega
 have HA := Aa.mk ((Below.refl w.heap.size w).alloc (Nat.le_refl _) (.cells #[.string s] 9))
 have HI := Lib.hid (index116_calls A c l s w.heap.size (w.alloc (.cells #[.string s] 9)) (Kd.Bb hC HA.out) (by simp) (by simp))
 clear hC h
 go_enter Tryz.func78, Tryz.ntmps78
 go_wp2_with (go_at_call 109; refine HI.out.mono ?_; rintro x w1 ⟨rfl, hb⟩)
 go_ret
 exact ⟨rfl, bel HA.out hb⟩
theorem find1_44_calls (x : S44) (s : ByteArray) (b : Nat) (w : World) (hb : b < w.heap.size) (hc : w.cell? ⟨b, 0, none⟩ = some (.string s)) :
 Calls Tryz.prog 112 #[.agg #[.string x.f0, .int .i64 x.f1], .pointer (some ⟨b, 0, none⟩)] w fun e w' => e = .returned (.bool (x.f0.toList == s.toList)) ∧ Below w.heap.size w w' := by
 have hne : b ≠ w.heap.size := by omega
 go_enter Tryz.func112, Tryz.ntmps112
 go_wp2
 go_ret
 exact ⟨rfl, (Below.refl _ _).alloc (Nat.le_refl _) _⟩
theorem rd_at44 (l : List S44) (k : Nat) (h : k < l.length) : Ds l (k : Int) = l[k] := by simp [Ds, List.getD_eq_getElem?_getD, h]
theorem index44_calls (A0 : Option Addr) (c0 : Nat) (l : List S44) (s : ByteArray) (b : Nat) (w : World) (hr : Kd.C k44 w A0 l.length l) (hb : b < w.heap.size) (hc : w.cell? ⟨b, 0, none⟩ = some (.string s)) :
 Calls Tryz.prog 111 #[.slice A0 l.length c0, .func (.func 112) #[] #[.pointer (some ⟨b, 0, none⟩)]] w fun e w' => e = .returned (.int .i64 (idxP (fun x : S44 => x.f0.toList == s.toList) l)) ∧ Below w.heap.size w w' := by
 have HR := Aa.mk hr
 have HC := Aa.mk hc
 have hm := Hb hr
 clear hr hc
 have eg : ∀ args w, (callFunc 112 args).run Tryz.prog w = .ok (.enter 112 args) w := enters_of Tryz.func112 (by kernel_rfl) rfl
 generalize hp : (fun x : S44 => x.f0.toList == s.toList) = p
 have HPP := Lib.hid hp
 go_enter Tryz.func111, Tryz.ntmps111
 go_wp2
 go_loopw [8] (fun v8 wr => ∃ k : Nat, v8 = .int .i64 k ∧ k ≤ l.length ∧ Aa (Dy p (l.drop k) k = idxP p l) ∧ Below w.heap.size w wr) (fun v8 _ => l.length - (intOf v8).toNat)
 case atStart => exact ⟨0, rfl, by omega, ⟨rfl⟩, Below.refl _ _⟩
 case round =>
  obtain ⟨k, rfl, hk, hf, hbw⟩ := hrel
  by_cases hlt : k < l.length
  ·obtain ⟨ad, rfl, f0, f1⟩ := at_T44 (Kd.Bb HR.out hbw) (k : Int) (by omega) (by omega)
   have hq := Lib.hid (Gm p l k hlt)
   rw [rd_at44 l k hlt] at f0 f1
   simp only [Int.toNat_natCast] at f0 f1
   generalize l[k] = x at *
   have hcl := find1_44_calls x s b wr (Nat.lt_of_lt_of_le hb hbw.size) ((hbw.cell (p := ⟨b, 0, none⟩) hb).trans HC.out)
   rw [show (x.f0.toList == s.toList) = p x from by rw [← HPP.out]] at hcl
   cases hpx : p x
   ·rw [hpx] at hcl
    have Hcl := Lib.hid hcl
    clear hcl
    go_wp2_with (first | (go_at_fn 112; refine Hcl.out.mono ?_; rintro e w' ⟨rfl, hb2⟩))
    exact ⟨⟨k + 1, by go_num, by omega, ⟨by rw [← hf.out, hq.out, if_neg (by rw [hpx]; decide)]⟩, bel hbw hb2⟩, by simp [intOf]; omega⟩
   ·rw [hpx] at hcl
    have Hcl := Lib.hid hcl
    clear hcl
    go_wp2_with (first | (go_at_fn 112; refine Hcl.out.mono ?_; rintro e w' ⟨rfl, hb2⟩))
    go_ret
    exact ⟨Hq (by rw [← hf.out, hq.out, if_pos hpx]), bel hbw hb2⟩
  ·have hd : l.drop k = [] := List.drop_of_length_le (by omega)
   have hq := Lib.hid hd
   clear hd
   go_wp2
   go_ret
   exact ⟨Hq (by rw [← hf.out, hq.out]; rfl), hbw⟩
theorem ppool_calls (B : Nat) (vE vP vD vO vR fd fo : Value) (e : Int) (A : Option Addr) (c : Nat) (l : List S44) (s : ByteArray) (w : World) (h : Pb w B vE vP vD vO vR fd fo e) (hv : vP = .slice A l.length c) (hC : Kd.C k44 w A l.length l) :
 Calls Tryz.prog 81 #[.pointer (some ⟨B, 0, none⟩), .string s] w fun x w' => x = .returned (.int .i64 (idxP (fun x : S44 => x.f0.toList == s.toList) l)) ∧ Below w.heap.size w w' := by
 have hmf : ∀ (fn : Fn) (first cap : Array Value) (w : World), (Instr.makeFunc fn first cap).run Tryz.prog w = .ok (.func fn first cap) w := fun _ _ _ _ => rfl
 have hB := Cq h
 subst hv
 obtain ⟨c0, c1, c2, c3, c4, _, _, _, _⟩ := pb_cells h
 have hne : B ≠ w.heap.size := by omega
 have HA := Aa.mk ((Below.refl w.heap.size w).alloc (Nat.le_refl _) (.cells #[.string s] 9))
 have HI := Lib.hid (index44_calls A c l s w.heap.size (w.alloc (.cells #[.string s] 9)) (Kd.Bb hC HA.out) (by simp) (by simp))
 clear hC h
 go_enter Tryz.func81, Tryz.ntmps81
 go_wp2_with (go_at_call 111; refine HI.out.mono ?_; rintro x w1 ⟨rfl, hb⟩)
 go_ret
 exact ⟨rfl, bel HA.out hb⟩
def Bz (xs : List ByteArray) : List ByteArray := xs.map fun x => (Ej x).1
def Dm (e : Int) (xs : List ByteArray) : Int := xs.foldl (fun e x => Db e (Ej x).2) e
theorem pb_grown {w w1 : World} {B : Nat} {vE vP vD vO vR fd fo : Value} {e : Int} {row : Option Nat} (h : Pb w B vE vP vD vO vR fd fo e) (hg : w.grownBy w1 row) (hne : some B ≠ row) : Pb w1 B vE vP vD vO vR fd fo e := blk_grown h hg hne
theorem If (B : Nat) (vE vP vD vO vR fd fo : Value) (e : Int) (v : Value) (xs : List ByteArray) (hxs : ∀ x ∈ xs, x.size ≤ 1048576) (hl : xs.length ≤ 1048577) (w : World) (h : Pb w B vE vP vD vO vR fd fo e) (hV : Vs w (fun k => k ≠ B) v xs) :
 Calls Tryz.prog 87 #[.pointer (some ⟨B, 0, none⟩), v] w fun x w' => ∃ v' : Value, x = .returned v' ∧ Kd.R Kd.string 9 w' w.heap.size (fun _ => True) v' (Bz xs) ∧ Pb w' B vE vP vD vO vR fd fo (Dm e xs) ∧ Kept w w' (fun k => k = B) ∧ ∀ base, base ≤ B → Below base w w' := by
 obtain ⟨A, c, rfl, hlc, hC⟩ := Fh hV
 have hB := Cq h
 have HV := Lib.hid hV
 have H := Lib.hid h
 have HXS := Lib.hid hxs
 clear hV hC h hxs
 go_enter Tryz.func87, Tryz.ntmps87
 go_wp2
 go_loopw [5, 7, 8, 9, 12] (fun v5 v7 v8 v9 v12 wr => ∃ (k : Nat), v12 = .int .i64 k ∧ k ≤ xs.length ∧ Aa (Kd.R Kd.string 9 wr w.heap.size (fun _ => True) v5 (Bz (xs.take k))) ∧ Aa (Pb wr B vE vP vD vO vR fd fo (Dm e (xs.take k))) ∧ Aa (Kept w wr (fun k => k = B)) ∧ Aa (∀ base, base ≤ B → Below base w wr)) (fun v5 v7 v8 v9 v12 _ => xs.length - (intOf v12).toNat)
 case atStart => exact ⟨0, rfl, by omega, ⟨Kd.Di _ _ _ _ _⟩, ⟨H.out⟩, ⟨Kept.refl _ _⟩, ⟨fun _ _ => Below.refl _ _⟩⟩
 case round =>
  obtain ⟨k, rfl, hk, HR, HP, HK, HB⟩ := hrel
  by_cases hlt : k < xs.length
  ·have hV2 := Fa HV.out HK.out (fun k h1 h2 => h1 h2)
   obtain ⟨ad, rfl, f0⟩ := Kd.Ct (vs_idx hV2).2 (k : Int) (by omega) (by omega)
   rw [Ie xs k hlt] at f0
   simp only [Int.toNat_natCast] at f0
   have hx := HXS.out _ (List.getElem_mem hlt)
   have ht1 : Bz (xs.take (k + 1)) = Bz (xs.take k) ++ [(Ej xs[k]).1] := by
    unfold Bz; rw [List.take_succ_eq_append_getElem hlt, List.map_append]; rfl
   have ht2 : Dm e (xs.take (k + 1)) = Db (Dm e (xs.take k)) (Ej xs[k]).2 := by
    unfold Dm; rw [List.take_succ_eq_append_getElem hlt, List.foldl_append]; rfl
   have HT1 := Lib.hid ht1
   have HT2 := Lib.hid ht2
   clear ht1 ht2 hV2
   have hlen : (Bz (xs.take k)).length ≤ k := by unfold Bz; rw [List.length_map, List.length_take]; exact Nat.min_le_left _ _
   generalize Bz (xs.take k) = out at *
   generalize Dm e (xs.take k) = ek at *
   generalize xs[k] = x at *
   obtain ⟨A5, c5, rfl, _, _⟩ := Kd.Dl HR.out
   generalize hcx : Ej x = cx at *
   have HCX := Lib.hid hcx
   obtain ⟨t, e2⟩ := cx
   simp only at HT1 HT2
   clear hcx
   have hwz := HK.out.1
   go_wp2_with fail
   refine (clean_calls x hx _).mono ?_
   rw [HCX.out]
   rintro y w1 ⟨rfl, hb1⟩
   have HR1 := Aa.mk (Kd.Bj HR.out hb1)
   have HP1 := Aa.mk (Cf HP.out hb1)
   have HK1 := Aa.mk (HK.out.below hb1)
   have HB1 := Aa.mk (fun base (hb : base ≤ B) => (HB.out base hb).trans (hb1.mono (by omega)))
   clear hb1
   go_wp2_with fail
   refine (took_calls B vE vP vD vO vR fd fo ek e2 _ HP1.out).mono ?_
   rintro y w2 ⟨rfl, hp2, hk2, hb2⟩
   have HP2 := Aa.mk hp2
   have HR2 := Aa.mk (Kd.De (ok' := fun _ => True) (Kd.R_kept (Kd.Ex HR1.out) hk2 (fun k h2 h3 => by have := h2.2.1; have h3' : k = B := h3; omega)) (fun _ _ => trivial))
   have HK2 := Aa.mk (Kept.then_ HK1.out hk2 (fun k hk => .inl hk))
   have HB2 := Aa.mk (fun base (hb : base ≤ B) => (HB1.out base hb).trans (hb2 base hb))
   have hwz2 := HK2.out.1
   clear hp2 hk2 hb2
   go_wp2_with ((with_reducible refine Cz (b := .append) (xs := #[.tmp 24, .tmp 26]) rfl ?_); at_builtin; refine Kd.Ep Kd.string (w0 := w2) w.heap.size rfl (.tmp 24) (.tmp 26) 24 9 (.string ⟨#[]⟩) 16 rfl Tryz.underlying24 Hh rfl (by decide) (by omega) (.slice A5 out.length c5) out t [.string t] (fun _ => True) (fun _ => False) rfl rfl rfl (fun _ hk => hk.elim) (fun _ _ => trivial) HR2.out (Below.refl _ _) hwz2 ?aL ?_; (case aL => omega); intro v5 w5 ho5 hb5 hg hat; clear hat; have HO5 := Aa.mk ho5; have HB5 := Aa.mk hb5; have HG5 := Aa.mk hg; clear ho5 hb5 hg)
   have hrow : ∀ j, (Value.slice A5 out.length c5).ownBlock = some j → w.heap.size ≤ j := Kd.R_base HR2.out
   refine ⟨⟨k + 1, by go_num, by omega, ⟨by rw [HT1.out]; exact HO5.out⟩, ⟨by rw [HT2.out]; exact pb_grown HP2.out HG5.out (fun e => by have := hrow B e.symm; omega)⟩, ⟨Kept.of_grown HG5.out HK2.out (fun j hj => .inr (hrow j hj))⟩, ⟨fun base hb => (HB2.out base hb).trans (HB5.out.mono (by omega))⟩⟩, by simp [intOf]; omega⟩
  ·obtain rfl : k = xs.length := by omega
   have HT : Hid (xs.take xs.length = xs) := Lib.hid (List.take_length)
   go_wp2_with fail
   go_ret
   have h1 := HR.out
   have h2 := HP.out
   rw [HT.out] at h1 h2
   exact ⟨_, rfl, h1, h2, HK.out, HB.out⟩
end Go.Proofs.YtefheailchihaaaGreatDoor.Print
end
section
namespace Go.Proofs.YtefheailchihaaaGreatDoor.Print
open Go.RowKit Go.Lib Go.Shelf Go.Proofs.YtefheailchihaaaGreatDoorW.PrintWords Go.Proofs.YtefheailchihaaaGreatDoorW.PrintLast Go.Proofs.YtefheailchihaaaGreatDoorW.PrintMore
def cutAt (s : ByteArray) : Int := Lib.indexByte s.data.toList 36
def Dk (s : ByteArray) : ByteArray × ByteArray × Bool := if 0 ≤ cutAt s then (s.extract 0 (cutAt s).toNat, s.extract ((cutAt s).toNat + 1) s.size, true) else (s, ⟨#[]⟩, false)
theorem cutAt_lt (s : ByteArray) (h : 0 ≤ cutAt s) : ∃ i : Nat, cutAt s = i ∧ i < s.size := by
 obtain ⟨i, hi⟩ := Int.eq_ofNat_of_zero_le h
 refine ⟨i, hi, ?_⟩
 have := (Lib.indexByte_some (show Lib.indexByte s.data.toList 36 = (i : Nat) from hi)).1
 rw [Lib.size_eq]
 exact (List.getElem?_eq_some_iff.mp this).1
theorem cut59_calls (s : ByteArray) (hs : s.size ≤ 9223372036854775807) (w : World) :
 Calls Tryz.prog 67 #[.string s, .string ⟨#[36]⟩] w fun e w' => e = .returned (.tuple #[.string (Dk s).1, .string (Dk s).2.1, .bool (Dk s).2.2]) ∧ ∃ n, w' = w.drewN n := by
 by_cases h : 0 ≤ cutAt s
 ·obtain ⟨i, hi, hlt⟩ := cutAt_lt s h
  have hd : Hid (Dk s = (s.extract 0 i, s.extract (i + 1) s.size, true)) := by
   unfold Dk
   rw [if_pos h, hi]
   exact Lib.hid rfl
  have HI : Hid (Lib.indexByte s.data.toList 36 = (i : Int)) := Lib.hid hi
  clear h hi
  have h0 : (0 : Int) ≤ i := by omega
  have h1 : (i : Int) ≤ s.size := by omega
  have h2 : (0 : Int) ≤ (i : Int) + 1 := by omega
  have h3 : (i : Int) + 1 ≤ s.size := by omega
  have h4 : IntKind.i64.wrap ((i : Int) + 1) = (i : Int) + 1 := IntWalk.i64_in _ (by omega)
  have h5 : ((i : Int) + 1).toNat = i + 1 := by omega
  go_enter Tryz.func67, Tryz.ntmps67
  go_wp2_with fail
  refine (Tryz.stringslite_Index_one s 36 _).mono ?_
  rintro e w' ⟨rfl, rfl⟩
  rw [HI.out]
  go_wp2_with fail
  go_quiet (fail)
  go_wp2_with fail
  refine bodyPost_ret (v := .tuple #[.string (s.extract 0 i), .string (s.extract (i + 1) s.size), .bool true]) (by simp [results, Tryz.results67, go_sem]) rfl ?_
  rw [hd.out]
  exact ⟨rfl, _, rfl⟩
 ·have hd : Hid (Dk s = (s, ⟨#[]⟩, false)) := by
   unfold Dk
   rw [if_neg h]
   exact Lib.hid rfl
  have HI : Hid (Lib.indexByte s.data.toList 36 = -1) := Lib.hid (by have := Lib.indexByte_ge s.data.toList 36; unfold cutAt at h; omega)
  clear h
  go_enter Tryz.func67, Tryz.ntmps67
  go_wp2_with fail
  refine (Tryz.stringslite_Index_one s 36 _).mono ?_
  rintro e w' ⟨rfl, rfl⟩
  rw [HI.out]
  go_wp2_with fail
  refine bodyPost_ret (v := .tuple #[.string s, .string ⟨#[]⟩, .bool false]) (by simp [results, Tryz.results67, go_sem]) rfl ?_
  rw [hd.out]
  exact ⟨rfl, 0, rfl⟩
theorem cut49_calls (s : ByteArray) (hs : s.size ≤ 9223372036854775807) (w : World) :
 Calls Tryz.prog 36 #[.string s, .string ⟨#[36]⟩] w fun e w' => e = .returned (.tuple #[.string (Dk s).1, .string (Dk s).2.1, .bool (Dk s).2.2]) ∧ ∃ n, w' = w.drewN n := by
 obtain ⟨⟨t1, t2, t3⟩, ht⟩ : ∃ t, Dk s = t := ⟨_, rfl⟩
 have HT := Lib.hid ht
 clear ht
 go_enter Tryz.func36, Tryz.ntmps36
 go_wp2_with fail
 refine (cut59_calls s hs _).mono ?_
 rw [HT.out]
 rintro e w' ⟨rfl, n, rfl⟩
 go_wp2_with fail
 refine bodyPost_ret (v := .tuple #[.string t1, .string t2, .bool t3]) (by simp [results, Tryz.results36, go_sem]) rfl ?_
 rw [HT.out]
 exact ⟨rfl, _, rfl⟩
end Go.Proofs.YtefheailchihaaaGreatDoor.Print
namespace Go.Proofs.YtefheailchihaaaGreatDoor.Print
open Go.RowKit Go.Lib Go.Shelf Go.Proofs.YtefheailchihaaaGreatDoorW.PrintWords Go.Proofs.YtefheailchihaaaGreatDoorW.PrintLast Go.Proofs.YtefheailchihaaaGreatDoorW.PrintMore
def Hf (out : List S162) (t : ByteArray) : List S162 := if 1 ≤ t.size then Df out t else out
def Fs (rest : ByteArray) (out : List S162) : ByteArray × List S162 × Bool :=
 if (Dk rest).2.2 = true then Dp (Dk rest).2.1 (Hf out (Dk rest).1) else ((Dk rest).2.1, Hf out (Dk rest).1, false)
def cutGo : Nat → ByteArray → List S162 → Bool → List S162 × Bool
 | 0, _, out, bad => (out, bad)
 | k + 1, rest, out, bad => if 1 ≤ rest.size ∧ bad = false then cutGo k (Fs rest out).1 (Fs rest out).2.1 (Fs rest out).2.2 else (out, bad)
def Few (N m : Nat) (out : List S162) : Prop := out.length + m ≤ N ∧ ∀ x ∈ out, x.f1.size + m ≤ N
theorem trimP_le (s e : ByteArray) : (trimP s e).size ≤ s.size := by
 unfold trimP
 rw [Lib.size_eq, Lib.size_eq]
 simp only [Lib.trimPrefix]
 split
 ·simp
 ·simp
theorem few_le {N m m' : Nat} {out : List S162} (h : Few N m out) (hm : m' ≤ m) : Few N m' out :=
 ⟨by have := h.1; omega, fun x hx => by have := h.2 x hx; omega⟩
theorem rd57_mem (out : List S162) (i : Nat) (hi : i < out.length) : Bn out (i : Int) ∈ out := by
 have : Bn out (i : Int) = out[i] := by simp [Bn, hi]
 rw [this]
 exact List.getElem_mem hi
theorem few_last {N m : Nat} {out : List S162} (h : Few N m out) (h0 : 0 < out.length) : (Bn out ((out.length - 1 : Nat) : Int)).f1.size + m ≤ N := h.2 _ (rd57_mem out _ (by omega))
theorem few_text {N m m' : Nat} {out : List S162} (t : ByteArray) (h : Few N m out) (ht : 1 ≤ t.size) (hm : t.size + m' ≤ m) : Few N m' (Df out t) := by
 have h1 := h.1
 unfold Df
 split
 ·rename_i hc
  refine ⟨by rw [List.length_set]; omega, fun x hx => ?_⟩
  rcases List.mem_or_eq_of_mem_set hx with hx | rfl
  ·have := h.2 x hx; omega
  ·have := few_last h hc.1
   simp only [ByteArray.size_append]
   omega
 ·refine ⟨by simp; omega, fun x hx => ?_⟩
  rcases List.mem_append.mp hx with hx | hx
  ·have := h.2 x hx; omega
  ·simp at hx
   subst hx
   simp only []
   omega
theorem few_textIf {N m m' : Nat} {out : List S162} (t : ByteArray) (h : Few N m out) (hm : t.size + m' ≤ m) : Few N m' (Hf out t) := by
 unfold Hf
 split
 ·rename_i ht
  exact few_text t h ht hm
 ·exact few_le h (by omega)
theorem few_var {N : Nat} {out : List S162} (rest e : ByteArray) (h : Few N rest.size out) : Few N (D7 rest out e).1.size (D7 rest out e).2.1 ∧ (D7 rest out e).1.size ≤ rest.size := by
 have hv := varLen_le rest
 have hw : (Gd rest).size = Dr rest := by simp [Gd]; omega
 have hr : (Eu rest).size = rest.size - Dr rest := by simp [Eu]
 have ht := trimP_le (Eu rest) e
 unfold D7
 split
 ·rename_i hc
  simp only [Bool.and_eq_true, decide_eq_true_eq] at hc
  refine ⟨⟨?_, fun x hx => ?_⟩, by simp only []; omega⟩
  ·have := h.1
   simp only [List.length_append, List.length_singleton]
   omega
  ·rcases List.mem_append.mp hx with hx | hx
   ·have := h.2 x hx
    simp only []
    omega
   ·simp at hx
    subst hx
    have := h.1
    simp only []
    omega
 ·exact ⟨few_le h (by simp only []; omega), by simp only []; omega⟩
theorem few_sign {N : Nat} {out : List S162} (rest : ByteArray) (h : Few N rest.size out) : Few N (Dp rest out).1.size (Dp rest out).2.1 ∧ (Dp rest out).1.size ≤ rest.size := by
 unfold Dp
 split
 ·rename_i h1
  have e1 : (rest.extract 1 rest.size).size = rest.size - 1 := by simp
  have e0 : (rest.extract 0 1).size = 1 := by simp; omega
  split
  ·exact ⟨few_text _ h (by omega) (by simp only []; omega), by simp only []; omega⟩
  ·split
   ·have := few_var (rest.extract 1 rest.size) ⟨#[125]⟩ (few_le h (by omega))
    exact ⟨this.1, by omega⟩
   ·exact few_var rest _ h
 ·exact few_var rest _ h
theorem Ik (s : ByteArray) : (Dk s).1.size + (Dk s).2.1.size ≤ s.size ∧ (1 ≤ s.size → (Dk s).2.1.size < s.size) := by
 unfold Dk
 split
 ·rename_i h
  obtain ⟨i, hi, hlt⟩ := cutAt_lt s h
  rw [hi]
  have e1 : (s.extract 0 i).size = i := by simp; omega
  have e2 : (s.extract (i + 1) s.size).size = s.size - (i + 1) := by simp
  simp only [Int.toNat_natCast, e1, e2]
  omega
 ·have e : (⟨#[]⟩ : ByteArray).size = 0 := rfl
  simp only [e]
  omega
theorem few_mid {N : Nat} {out : List S162} (rest : ByteArray) (h : Few N rest.size out) : Few N (Dk rest).2.1.size (Hf out (Dk rest).1) :=
 few_textIf _ h (Ik rest).1
theorem few_round {N : Nat} {out : List S162} (rest : ByteArray) (h : Few N rest.size out) : Few N (Fs rest out).1.size (Fs rest out).2.1 ∧ (Fs rest out).1.size ≤ (Dk rest).2.1.size := by
 unfold Fs
 split
 ·exact few_sign _ (few_mid rest h)
 ·exact ⟨few_mid rest h, Nat.le_refl _⟩
def Gn (s : ByteArray) : List S162 × Int :=
 if Do s 2048 = true then (if (cutGo s.size s [] false).2 = true then ([], 300) else ((cutGo s.size s [] false).1, 0)) else ([], 300)
end Go.Proofs.YtefheailchihaaaGreatDoor.Print
namespace Go.Proofs.YtefheailchihaaaGreatDoor.Print
open Go.RowKit Go.Lib Go.Shelf Go.Proofs.YtefheailchihaaaGreatDoorW.PrintWords Go.Proofs.YtefheailchihaaaGreatDoorW.PrintLast Go.Proofs.YtefheailchihaaaGreatDoorW.PrintMore
def szOf : Value → Nat
 | .string s => s.size
 | _ => 2049
theorem st_drewN {B g : Nat} {w : World} {rest : ByteArray} {out : List S162} {bad : Bool} (h : St B g w rest out bad) (n : Nat) : St B g (w.drewN n) rest out bad := by
 obtain ⟨v, hb, hB, hR⟩ := h
 exact ⟨v, blk_drewN hb n, hB, Kd.Cc hR n⟩
theorem st_rest {B g : Nat} {w : World} {rest : ByteArray} {out : List S162} {bad : Bool} (h : St B g w rest out bad) (t : ByteArray) : St B g (w.setCell ⟨g, 0, none⟩ (.string t)) t out bad := by
 obtain ⟨v, hb, hB, hR⟩ := h
 exact ⟨v, Az hb 0 _ rfl, hB, Kd.R_far (p := ⟨g, 0, none⟩) hR (fun _ hk => hk) _⟩
theorem st_below {B g : Nat} {w : World} {rest : ByteArray} {out : List S162} {bad : Bool} (h : St B g w rest out bad) : ∃ v, w.cell? ⟨g, 0, none⟩ = some (.string rest) ∧ w.cell? ⟨g, 1, none⟩ = some v ∧ w.cell? ⟨g, 2, none⟩ = some (.bool bad) ∧ w.frozen? ⟨g, 0, none⟩ = false ∧ w.frozen? ⟨g, 1, none⟩ = false ∧ w.frozen? ⟨g, 2, none⟩ = false ∧ B ≤ g ∧ Kd.R k162 162 w B (fun k => k ≠ g) v out := by
 obtain ⟨v, hb, hB, hR⟩ := h
 obtain ⟨a, b, c, d, e, f⟩ := Ib (B := B) (out := out) hb
 exact ⟨v, a, b, c, d, e, f, hB, hR⟩
theorem cutGo_next {k : Nat} {rest : ByteArray} {out : List S162} {F : List S162 × Bool} (h : cutGo k rest out false = F) (h1 : 1 ≤ rest.size) (hk : rest.size ≤ k) : cutGo (k - 1) (Fs rest out).1 (Fs rest out).2.1 (Fs rest out).2.2 = F := by
 obtain ⟨j, rfl⟩ : ∃ j, k = j + 1 := ⟨k - 1, by omega⟩
 rw [← h]
 simp [cutGo, h1]
theorem cutGo_done {k : Nat} {rest : ByteArray} {out : List S162} {bad : Bool} {F : List S162 × Bool} (h : cutGo k rest out bad = F) (h1 : ¬ (1 ≤ rest.size ∧ bad = false)) : F = (out, bad) := by
 rw [← h]
 cases k with
 | zero => rfl
 | succ k => simp only [cutGo]; rw [if_neg h1]
def Rel (w : World) (F : List S162 × Bool) (v6 : Value) (wr : World) : Prop :=
 ∃ (k : Nat) (rest : ByteArray) (out : List S162) (bad : Bool), St w.heap.size w.heap.size wr rest out bad ∧ Below w.heap.size w wr ∧ Few 2048 rest.size out ∧ rest.size ≤ k ∧ cutGo k rest out bad = F ∧ rest.size ≤ szOf v6
theorem rel_next {w wr : World} {F : List S162 × Bool} {k : Nat} {rest : ByteArray} {out : List S162} (h : cutGo k rest out false = F) (h1 : 1 ≤ rest.size) (hk : rest.size ≤ k) (hf : Few 2048 rest.size out)
 (hs : St w.heap.size w.heap.size wr (Fs rest out).1 (Fs rest out).2.1 (Fs rest out).2.2) (hb : Below w.heap.size w wr) : Rel w F (.string (Dk rest).2.1) wr := by
 have hr := few_round rest hf
 have hc := (Ik rest).2 h1
 exact ⟨k - 1, _, _, _, hs, hb, hr.1, by omega, cutGo_next h h1 hk, hr.2⟩
theorem cut35_calls (s : ByteArray) (hs : s.size ≤ 9223372036854775807) (w : World) :
 Calls Tryz.prog 121 #[.string s] w fun e w' => ∃ v : Value, e = .returned (.tuple #[v, .int .i64 (Gn s).2]) ∧ Kd.R k162 162 w' w.heap.size (fun _ => True) v (Gn s).1 ∧ Below w.heap.size w w' := by
 cases hp : Do s 2048
 ·have hd : Hid (Gn s = ([], 300)) := by
   unfold Gn
   rw [if_neg (by rw [hp]; decide)]
   exact Lib.hid rfl
  have HP := Lib.hid hp
  clear hp
  go_enter Tryz.func121, Tryz.ntmps121
  go_wp2_with fail
  refine (H7 s 2048 _ hs).mono ?_
  rintro e w' ⟨rfl, rfl⟩
  rw [HP.out]
  go_wp2_with fail
  refine bodyPost_ret (v := .tuple #[.slice none 0 0, .int .i64 300]) (by simp [results, Tryz.results121, go_sem]) rfl ?_
  rw [hd.out]
  exact ⟨_, rfl, Kd.Di _ _ _ _ _, Below.refl _ _⟩
 ·have h48 : s.size ≤ 2048 := by
   unfold Do at hp
   simp at hp
   omega
  obtain ⟨F, hF⟩ : ∃ F, cutGo s.size s [] false = F := ⟨_, rfl⟩
  have hd : Hid (Gn s = if F.2 = true then ([], 300) else (F.1, 0)) := by
   unfold Gn
   rw [if_pos hp, hF]
   exact Lib.hid rfl
  have HP := Lib.hid hp
  have HF := Aa.mk hF
  clear hp hF
  go_enter Tryz.func121, Tryz.ntmps121
  go_wp2_with fail
  refine (H7 s 2048 _ hs).mono ?_
  rintro e w' ⟨rfl, rfl⟩
  rw [HP.out]
  go_wp2_with fail
  go_loopw [5, 6, 7] (fun v5 v6 v7 wr => Rel w F v6 wr) (fun v5 v6 v7 _ => szOf v6)
  case atStart =>
   exact ⟨s.size, s, [], false, ⟨.slice none 0 0, Cv _ _, Nat.le_refl _, Kd.Di _ _ _ _ _⟩, (Below.refl _ _).alloc (Nat.le_refl _) _, ⟨by simp; omega, fun x hx => by simp at hx⟩, Nat.le_refl _, HF.out, by show s.size ≤ 2049; omega⟩
  case round =>
   obtain ⟨k, rest, out, bad, hst, hbel, hfew, hk, hgo, hsz⟩ := hrel
   obtain ⟨v, c0, c1, c2, f0, f1, f2, -, hR⟩ := st_below hst
   have HST := Aa.mk hst
   have HBEL := Aa.mk hbel
   have HFEW := Aa.mk hfew
   have HGO := Aa.mk hgo
   have HR := Aa.mk hR
   have HSZ := Aa.mk hsz
   have hmax : rest.size ≤ 2048 := by have := hfew.1; omega
   clear hst hbel hfew hgo hR hsz HF
   by_cases h1 : 1 ≤ rest.size
   ·have hie : rest.toList.isEmpty = false := by simpa using E2 h1
    have hn : ¬ rest.toList = [] := E2 h1
    have HIE := Lib.hid hie
    clear hie
    cases bad
    ·have hlt := (Ik rest).2 h1
     have hNX := Lib.hid (fun wr hs hb => rel_next (w := w) (wr := wr) HGO.out h1 hk HFEW.out hs hb)
     have hfm := few_mid rest HFEW.out
     have hmid := Lib.hid hfm
     have hle := (Ik rest).1
     have hzz : Hid (0 < out.length → (Bn out ((out.length - 1 : Nat) : Int)).f1.size + (Dk rest).1.size ≤ 9223372036854775807) := Lib.hid fun h0 => by
      have := few_last HFEW.out h0
      omega
     have hol : out.length < 5864062014805 := by have := HFEW.out.1; omega
     have hm2 : (Dk rest).2.1.size ≤ 2048 := by omega
     have hcr : Hid (Fs rest out = if (Dk rest).2.2 = true then Dp (Dk rest).2.1 (Hf out (Dk rest).1) else ((Dk rest).2.1, Hf out (Dk rest).1, false)) := rfl
     clear hfm hle
     obtain ⟨⟨t1, t2, t3⟩, ht⟩ : ∃ t, Dk rest = t := ⟨_, rfl⟩
     rw [ht] at hlt hNX hmid hzz hm2 hcr
     have HT := Lib.hid ht
     clear ht
     simp only [] at hlt hm2
     have hlt6 : t2.size < szOf u6 := by have := HSZ.out; omega
     clear HSZ
     go_wp2_with fail
     refine (cut49_calls rest (by omega) _).mono ?_
     rintro e w' ⟨rfl, nq, rfl⟩
     rw [HT.out]
     have hst2 := st_rest (st_drewN HST.out nq) t2
     have HST2 := Aa.mk hst2
     have HB2 := Aa.mk ((Cu HBEL.out nq).setCell (p := ⟨w.heap.size, 0, none⟩) (Nat.le_refl _) (.string t2))
     clear hst2
     have hti : Hid (Hf out t1 = if 1 ≤ t1.size then Df out t1 else out) := rfl
     by_cases ht1 : 1 ≤ t1.size
     ·have hn1 : ¬ t1.toList = [] := E2 ht1
      have HNE : Hid (¬ ((!t1.toList.isEmpty) = false)) := Lib.hid (by simpa using hn1)
      rw [if_pos ht1] at hti
      rw [hti.out] at hmid hcr
      have hmf := hmid.out
      have hol2 : (Df out t1).length < 5864062014805 := by have := hmf.1; omega
      have hz2 : Hid (0 < (Df out t1).length → (Bn (Df out t1) (((Df out t1).length - 1 : Nat) : Int)).f1.size < 9223372036854775807) := Lib.hid fun h0 => by
       have := few_last hmf h0
       omega
      clear hmf
      cases t3
      ·rw [if_neg (by decide)] at hcr
       go_wp2_with fail
       refine (text_calls w.heap.size w.heap.size t2 out false t1 _ HST2.out hol hzz.out).mono ?_
       rintro e w3 ⟨rfl, hst3, hb3⟩
       have HST3 := Aa.mk hst3
       have HB3 := Aa.mk (HB2.out.trans hb3)
       clear hst3 hb3
       go_wp2_with fail
       exact ⟨hNX.out _ (by rw [hcr.out]; exact HST3.out) HB3.out, hlt6⟩
       all_goals (rename_i hx; exact absurd hx HNE.out)
      ·rw [if_pos rfl] at hcr
       go_wp2_with fail
       refine (text_calls w.heap.size w.heap.size t2 out false t1 _ HST2.out hol hzz.out).mono ?_
       rintro e w3 ⟨rfl, hst3, hb3⟩
       have HST3 := Aa.mk hst3
       have HB3 := Aa.mk (HB2.out.trans hb3)
       clear hst3 hb3
       go_wp2_with fail
       refine (sign_calls w.heap.size w.heap.size t2 (Df out t1) _ HST3.out (by omega) hol2 hz2.out).mono ?_
       rintro e w4 ⟨rfl, hst4, hb4⟩
       have HST4 := Aa.mk hst4
       have HB4 := Aa.mk (HB3.out.trans hb4)
       clear hst4 hb4
       go_wp2_with fail
       exact ⟨hNX.out _ (by rw [hcr.out]; exact HST4.out) HB4.out, hlt6⟩
       all_goals (rename_i hx; exact absurd hx HNE.out)
     ·have hn1 : t1.toList = [] := Fg ht1
      rw [if_neg ht1] at hti
      rw [hti.out] at hmid hcr
      have hmf := hmid.out
      have hz2 : Hid (0 < out.length → (Bn out ((out.length - 1 : Nat) : Int)).f1.size < 9223372036854775807) := Lib.hid fun h0 => by
       have := few_last hmf h0
       omega
      clear hmf
      cases t3
      ·rw [if_neg (by decide)] at hcr
       go_wp2_with fail
       exact ⟨hNX.out _ (by rw [hcr.out]; exact HST2.out) HB2.out, hlt6⟩
      ·rw [if_pos rfl] at hcr
       go_wp2_with fail
       refine (sign_calls w.heap.size w.heap.size t2 out _ HST2.out (by omega) hol hz2.out).mono ?_
       rintro e w4 ⟨rfl, hst4, hb4⟩
       have HST4 := Aa.mk hst4
       have HB4 := Aa.mk (HB2.out.trans hb4)
       clear hst4 hb4
       go_wp2_with fail
       exact ⟨hNX.out _ (by rw [hcr.out]; exact HST4.out) HB4.out, hlt6⟩
     all_goals (rename_i hx; exact absurd hx (by rw [HIE.out]; decide))
    ·have hFd := cutGo_done HGO.out (by simp)
     rw [hFd, if_pos rfl] at hd
     clear HGO hFd
     go_wp2_with fail
     refine bodyPost_ret (v := .tuple #[.slice none 0 0, .int .i64 300]) (by simp [results, Tryz.results121, go_sem]) rfl ?_
     rw [hd.out]
     exact ⟨_, rfl, Kd.Di _ _ _ _ _, HBEL.out⟩
   ·have hn : rest.toList = [] := Fg h1
    have hFd := cutGo_done HGO.out (fun h => h1 h.1)
    rw [hFd] at hd
    clear HGO hFd
    cases bad
    ·rw [if_neg (by simp)] at hd
     go_wp2_with fail
     refine bodyPost_ret (v := .tuple #[v, .int .i64 0]) (by simp [results, Tryz.results121, go_sem]) rfl ?_
     rw [hd.out]
     exact ⟨_, rfl, Kd.De HR.out (fun _ _ => trivial), HBEL.out⟩
    ·rw [if_pos rfl] at hd
     go_wp2_with fail
     refine bodyPost_ret (v := .tuple #[.slice none 0 0, .int .i64 300]) (by simp [results, Tryz.results121, go_sem]) rfl ?_
     rw [hd.out]
     exact ⟨_, rfl, Kd.Di _ _ _ _ _, HBEL.out⟩
end Go.Proofs.YtefheailchihaaaGreatDoor.Print
end
section
namespace Go.Proofs.YtefheailchihaaaGreatDoor.Print
open Go.RowKit Go.Lib Go.Proofs.YtefheailchihaaaGreatDoorW.PrintWords Go.Proofs.YtefheailchihaaaGreatDoorW.PrintLast
theorem wrap_succD {i : Int} {n : Nat} (h0 : 0 ≤ i) (h : i < (n : Int)) (hn : n ≤ 140737488355328) : wrap64 (i + 1) = i + 1 := by
 unfold wrap64
 omega
theorem wrap_nat (i n : Nat) (h : i < n) (hn : n ≤ 140737488355328) : wrap64 ((i : Int) + 1) = ((i + 1 : Nat) : Int) := by
 rw [wrap_succD (n := n) (by omega) (by omega) hn]
 omega
theorem split_row (r : List UInt8) (l : List UInt8) (h : (10 : UInt8) ∉ r) : ∀ cur, Ek cur (r ++ 10 :: l) = (cur ++ r) :: Ek [] l := by
 induction r with
 | nil => intro cur; simp [Ek]
 | cons c r ih =>
  intro cur
  have hc : ¬ c = 10 := fun e => h (by simp [e])
  rw [List.cons_append]
  simp only [Ek]
  rw [if_neg hc, ih (fun hm => h (List.mem_cons_of_mem _ hm))]
  simp
theorem split_rows (rs : List ByteArray) (h : NoNl rs) : Ek [] (Cx rs) = rs.map (fun r => r.data.toList) ++ [[]] := by
 induction rs with
 | nil => simp [Cx, Ek]
 | cons r rs ih =>
  rw [Hy, split_row r.data.toList _ (h r (by simp)), ih (fun q hq => h q (by simp [hq]))]
  simp
theorem rows_U (rs : List ByteArray) (h : NoNl rs) : rowsOf (U rs) = rs := by
 unfold rowsOf
 rw [show (U rs).data.toList = Cx rs from rfl, split_rows rs h, List.dropLast_concat, List.map_map]
 conv => rhs; rw [← List.map_id rs]
 rfl
theorem unrows_app (a b : List ByteArray) : Cx (a ++ b) = Cx a ++ Cx b := by
 unfold Cx
 rw [List.flatMap_append]
theorem U_end (rs : List ByteArray) : (U rs).size = 0 ∨ Lib.hasSuffix (U rs).data.toList [10] = true := by
 rcases List.eq_nil_or_concat rs with e | ⟨l, r, e⟩
 ·left; rw [e, U_size]; rfl
 ·right
  rw [e, List.concat_eq_append, show (U (l ++ [r])).data.toList = Cx (l ++ [r]) from rfl, unrows_app]
  unfold Lib.hasSuffix
  rw [List.isSuffixOf_iff_suffix]
  refine ⟨Cx l ++ r.data.toList, ?_⟩
  simp [Cx]
theorem noNl_unrows (rs : List ByteArray) (h : NoNl rs) : noNl (Cx rs) = rs.flatMap fun r => r.data.toList := by
 induction rs with
 | nil => rfl
 | cons r rs ih =>
  rw [Hy, noNl_app, noNl_none _ (fun c hc e => h r (by simp) (e ▸ hc)), List.flatMap_cons, ← ih (fun q hq => h q (by simp [hq]))]
  rfl
def Gk (rs : List ByteArray) : Bool := rs.all fun r => Dn r.data.toList
theorem plain_flat (rs : List ByteArray) : Dn (rs.flatMap fun r => r.data.toList) = Gk rs := by
 induction rs with
 | nil => rfl
 | cons r rs ih =>
  unfold Dn Gk at *
  rw [List.flatMap_cons, List.all_append, ih]
  rfl
theorem may_U (rs : List ByteArray) (h : NoNl rs) : mayB (U rs) = (decide ((U rs).size ≤ 2048) && Gk rs) := by
 unfold mayB
 have he := U_end rs
 rw [show (U rs).data.toList = Cx rs from rfl, noNl_unrows rs h] at *
 by_cases h48 : (U rs).size ≤ 2048
 ·have hz : (noNl (Cx rs)).length ≤ (Cx rs).length := List.length_filter_le _ _
  rw [noNl_unrows rs h, ← U_size] at hz
  have hp : Do ⟨(rs.flatMap fun r => r.data.toList).toArray⟩ 2048 = Gk rs := by
   unfold Do
   rw [show ((⟨(rs.flatMap fun r => r.data.toList).toArray⟩ : ByteArray).data.toList) = rs.flatMap fun r => r.data.toList from rfl, plain_flat]
   have hq : ∀ l : List UInt8, (⟨l.toArray⟩ : ByteArray).size = l.length := fun l => by simp [ByteArray.size]
   rw [decide_eq_true (by rw [hq]; omega), Bool.and_true]
  have h2 : (decide ((U rs).size = 0) || Lib.hasSuffix (Cx rs) [10]) = true := by
   rcases he with e | e
   ·rw [decide_eq_true e, Bool.true_or]
   ·rw [e, Bool.or_true]
  rw [hp, h2, Bool.and_true]
 ·rw [decide_eq_false h48]
  rfl
theorem cut_rows (rs : List ByteArray) (h : NoNl rs) : Ef (U rs) = if (U rs).size ≤ 2048 ∧ Gk rs = true then E8 rs.length rs [] else ([], 600) := by
 unfold Ef
 rw [may_U rs h, rows_U rs h]
 by_cases h48 : (U rs).size ≤ 2048 <;> by_cases hp : Gk rs = true <;> simp [h48, hp]
theorem join_len : ∀ (rs : List ByteArray) (line last : ByteArray) (p : ByteArray × List ByteArray), Ff line last rs = some p → p.2.length ≤ rs.length := by
 intro rs
 induction rs with
 | nil =>
  intro line last p h
  simp only [Ff] at h
  split at h
  ·exact absurd h (by simp)
  ·injection h with h; subst h; simp
 | cons r rs ih =>
  intro line last p h
  simp only [Ff] at h
  split at h
  ·have := ih _ _ p h
   simp; omega
  ·injection h with h; subst h; simp
theorem go_fuel : ∀ (k : Nat) (rs : List ByteArray) (out : List S59) (m : Nat), rs.length ≤ k → rs.length ≤ m → E8 k rs out = E8 m rs out := by
 intro k
 induction k with
 | zero =>
  intro rs out m h _
  obtain rfl : rs = [] := List.length_eq_zero_iff.1 (by omega)
  rw [linesGo_nil, linesGo_nil]
 | succ k ih =>
  intro rs out m h hm
  cases rs with
  | nil => rw [linesGo_nil, linesGo_nil]
  | cons r rs =>
   obtain ⟨m, rfl⟩ : ∃ q, m = q + 1 := ⟨m - 1, by simp at hm; omega⟩
   rw [Ih, Ih]
   cases hj : Ff r r rs with
   | none => rfl
   | some p =>
    have := join_len rs r r p hj
    simp at h hm
    exact ih p.2 (Gc out p.1) m (by omega) (by omega)
theorem Ga (s : ByteArray) (i : Nat) (h : i < s.size) : bt s (i : Int) = (s[i].toNat : Int) := by
 unfold bt
 rw [dif_pos (by simpa using h)]
 rfl
theorem plain_loopD (s : ByteArray) (a b : Int) (hn : s.size ≤ 140737488355328) (d : Nat) : ∀ (k i : Nat), i + d = s.size → d < k →
 An.l0 k s a b (i : Int) = some (Dn (s.data.toList.drop i) && (decide (a ≤ s.size) && decide ((s.size : Int) ≤ b))) := by
 induction d with
 | zero =>
  intro k i hi hk
  obtain ⟨k, rfl⟩ : ∃ m, k = m + 1 := ⟨k - 1, by omega⟩
  simp only [An.l0]
  rw [if_neg (by omega), drop_end s i (by omega)]
  by_cases h : a ≤ s.size
  ·rw [if_pos (by omega)]; simp [h, Dn]
  ·rw [if_neg (by omega)]; simp [h]
 | succ d ih =>
  intro k i hi hk
  obtain ⟨k, rfl⟩ : ∃ m, k = m + 1 := ⟨k - 1, by omega⟩
  have hlt : i < s.size := by omega
  have hih := ih k (i + 1) (by omega) (by omega)
  simp only [An.l0]
  rw [if_pos (by omega), if_pos (by omega), Ga s i hlt, E5 s i hlt, wrap_succD (n := s.size) (by omega) (by omega) hn]
  have hc : ((i : Int) + 1) = ((i + 1 : Nat) : Int) := by omega
  rw [hc, hih]
  have hp : Dn (s[i] :: s.data.toList.drop (i + 1)) = (decide (32 ≤ (s[i].toNat : Int)) && decide ((s[i].toNat : Int) ≤ 126) && Dn (s.data.toList.drop (i + 1))) := rfl
  rw [hp]
  generalize (s[i].toNat : Int) = c at *
  by_cases h1 : c < 32
  ·rw [if_pos h1]; simp [show ¬ 32 ≤ c by omega]
  ·rw [if_neg h1]
   by_cases h2 : c > 126
   ·rw [if_pos h2]; simp [show ¬ c ≤ 126 by omega]
   ·rw [if_neg h2]; simp [show 32 ≤ c by omega, show c ≤ 126 by omega]
theorem refPlainD (s : ByteArray) (b : Int) (hn : s.size ≤ 140737488355328) (k : Nat) (hk : s.size < k) : An.f k s 0 b = some (Do s b) := by
 unfold An.f
 have h : An.l0 k s 0 b 0 = _ := plain_loopD s 0 b hn s.size k 0 (by omega) hk
 rw [h, List.drop_zero]
 simp [Do]
def mkB (l : List UInt8) : ByteArray := ⟨l.toArray⟩
theorem list_tail (s : ByteArray) (h : 1 ≤ s.size) : s.data.toList = s[0] :: (s.extract 1 s.size).data.toList := by
 have := E5 s 0 (by omega)
 rw [List.drop_zero] at this
 rw [this, Lib.extract_to_end]
theorem list_init (s : ByteArray) (h : 1 ≤ s.size) : s.data.toList = (s.extract 0 (s.size - 1)).data.toList ++ [s[s.size - 1]] := by
 rw [Lib.extract_data, List.drop_zero, Nat.sub_zero]
 have hl : s.size - 1 < s.data.toList.length := by rw [← Lib.size_eq]; omega
 have e : s[s.size - 1]'(by omega) = s.data.toList[s.size - 1] := rfl
 rw [e, ← List.take_succ_eq_append_getElem hl, List.take_of_length_le (by rw [← Lib.size_eq]; omega)]
theorem byte_eq (c d : UInt8) : ((c.toNat : Int) = (d.toNat : Int)) ↔ c = d := by
 constructor
 ·intro h; exact UInt8.toNat_inj.1 (by omega)
 ·intro h; rw [h]
theorem ne32 {c : UInt8} (h : ¬ c = 32) : ¬ (c.toNat : Int) = 32 := fun e => h (UInt8.toNat_inj.1 (by have : (32 : UInt8).toNat = 32 := rfl; omega))
theorem ne36 {c : UInt8} (h : ¬ c = 36) : ¬ (c.toNat : Int) = 36 := fun e => h (UInt8.toNat_inj.1 (by have : (36 : UInt8).toNat = 36 := rfl; omega))
theorem ne10 {c : UInt8} (h : ¬ c = 10) : ¬ (c.toNat : Int) = 10 := fun e => h (UInt8.toNat_inj.1 (by have : (10 : UInt8).toNat = 10 := rfl; omega))
theorem wrap_in (x : Int) (h0 : 0 ≤ x) (h1 : x ≤ 140737488355328) : wrap64 x = x := by unfold wrap64; omega
theorem wrap_pred (n : Nat) (h1 : 1 ≤ n) (h2 : n ≤ 140737488355328) : wrap64 ((n : Int) - 1) = ((n - 1 : Nat) : Int) := by
 rw [wrap_in _ (by omega) (by omega)]
 omega
theorem refFront : ∀ (k : Nat) (s : ByteArray), s.size ≤ 140737488355328 → s.size < k → Ay.f k s = some (Fp s) := by
 intro k
 unfold Ay.f
 induction k with
 | zero => intro s _ h; omega
 | succ k ih =>
  intro s hn hk
  by_cases h0 : 1 ≤ s.size
  ·have hl := list_tail s h0
   rw [Ay.l0, if_pos (by omega), if_pos (by omega), show (0 : Int) = ((0 : Nat) : Int) from rfl, Ga s 0 (by omega)]
   by_cases hc : s[0] = 32
   ·have hz : (s.extract 1 s.size).size = s.size - 1 := by simp
    rw [if_pos (by rw [hc]; rfl), if_pos (by omega), ih (s.extract 1 s.size) (by omega) (by omega)]
    unfold Fp Lib.trimLeftB
    rw [hl, List.dropWhile_cons, if_pos (by simpa using hc)]
   ·rw [if_neg (ne32 hc)]
    unfold Fp Lib.trimLeftB
    rw [hl, List.dropWhile_cons, if_neg (by simpa using hc), ← hl]
  ·rw [Ay.l0, if_neg (by omega)]
   have : s.data.toList = [] := List.length_eq_zero_iff.1 (by rw [← Lib.size_eq]; omega)
   unfold Fp Lib.trimLeftB
   rw [this]
   exact congrArg some (ByteArray.ext (Array.toList_inj.1 (by rw [this]; rfl)))
theorem right_snoc (l : List UInt8) (c : UInt8) : Lib.trimRightB (l ++ [c]) 32 = if c = 32 then Lib.trimRightB l 32 else l ++ [c] := by
 unfold Lib.trimRightB
 rw [List.reverse_append, List.reverse_singleton, List.singleton_append, List.dropWhile_cons]
 by_cases h : c = 32
 ·rw [if_pos h, if_pos (by simpa using h)]
 ·rw [if_neg h, if_neg (by simpa using h)]
  simp
theorem right_cons (c : UInt8) (l : List UInt8) : Lib.trimRightB (c :: l) 32 = if Lib.trimRightB l 32 = [] then (if c = 32 then [] else [c]) else c :: Lib.trimRightB l 32 := by
 obtain ⟨r, rfl⟩ : ∃ r : List UInt8, l = r.reverse := ⟨l.reverse, by simp⟩
 induction r with
 | nil =>
  rw [List.reverse_nil, show c :: ([] : List UInt8) = [] ++ [c] from rfl, right_snoc]
  rfl
 | cons d y ih =>
  rw [List.reverse_cons, show c :: (y.reverse ++ [d]) = (c :: y.reverse) ++ [d] from rfl, right_snoc, right_snoc]
  by_cases hd : d = 32
  ·rw [if_pos hd, if_pos hd]
   exact ih
  ·rw [if_neg hd, if_neg hd, if_neg (by simp)]
   rfl
theorem trims_comm (l : List UInt8) : Lib.trimRightB (Lib.trimLeftB l 32) 32 = Lib.trimLeftB (Lib.trimRightB l 32) 32 := by
 induction l with
 | nil => rfl
 | cons c l ih =>
  rw [right_cons]
  by_cases hc : c = 32
  ·have e1 : Lib.trimLeftB (c :: l) 32 = Lib.trimLeftB l 32 := by unfold Lib.trimLeftB; rw [List.dropWhile_cons, if_pos (by simpa using hc)]
   rw [e1, ih]
   by_cases h : Lib.trimRightB l 32 = []
   ·rw [if_pos h, if_pos hc, h]
   ·rw [if_neg h]
    unfold Lib.trimLeftB
    rw [List.dropWhile_cons, if_pos (by simpa using hc)]
  ·have e1 : ∀ m, Lib.trimLeftB (c :: m) 32 = c :: m := fun m => by unfold Lib.trimLeftB; rw [List.dropWhile_cons, if_neg (by simpa using hc)]
   rw [e1, right_cons]
   by_cases h : Lib.trimRightB l 32 = []
   ·rw [if_pos h, if_neg hc, e1]
   ·rw [if_neg h, e1]
theorem refRight : ∀ (k : Nat) (s : ByteArray), s.size ≤ 140737488355328 → s.size < k → Au.l0 k s = some (mkB (Lib.trimRightB s.data.toList 32)) := by
 intro k
 induction k with
 | zero => intro s _ h; omega
 | succ k ih =>
  intro s hn hk
  by_cases h0 : 1 ≤ s.size
  ·have hl := list_init s h0
   have hw := wrap_pred s.size h0 hn
   have hz : (s.extract 0 (s.size - 1)).size = s.size - 1 := by simp
   have q0 : (s.size : Int) > 0 := by omega
   have q1 : (0 : Int) ≤ ((s.size - 1 : Nat) : Int) := by omega
   have q2 : ((s.size - 1 : Nat) : Int) < (s.size : Int) := by omega
   have q3 : ((s.size - 1 : Nat) : Int) ≤ (s.size : Int) := by omega
   rw [Au.l0, hw, if_pos q0, if_pos q1, if_pos q2, Ga s (s.size - 1) (by omega)]
   clear hw
   by_cases hc : s[s.size - 1] = 32
   ·rw [if_pos (by rw [hc]; rfl), if_pos q3, Int.toNat_natCast, ih _ (by omega) (by omega), hl, right_snoc, if_pos hc]
   ·rw [if_neg (ne32 hc), hl, right_snoc, if_neg hc, ← hl]
    rfl
  ·rw [Au.l0, if_neg (by omega)]
   have : s.data.toList = [] := List.length_eq_zero_iff.1 (by rw [← Lib.size_eq]; omega)
   rw [this]
   exact congrArg some (ByteArray.ext (Array.toList_inj.1 (by rw [this]; rfl)))
theorem refTrim (k : Nat) (s : ByteArray) (hn : s.size ≤ 140737488355328) (hk : s.size < k) : Au.f k s = some (Et s) := by
 have hf := front_size s
 unfold Au.f
 rw [refFront k s hn hk]
 simp only [Option.bind_some]
 rw [refRight k (Fp s) (by omega) (by omega)]
 unfold Et Lib.trimB Fp
 rw [← trims_comm]
 rfl
theorem takeWhile_split (p : UInt8 → Bool) (R : List UInt8) (i : Nat) (h : ∀ c ∈ R.take i, p c = true) (hi : i ≤ R.length) : (R.takeWhile p).length = i + ((R.drop i).takeWhile p).length := by
 conv => lhs; rw [← List.take_append_drop i R]
 rw [List.takeWhile_append_of_pos h, List.length_append, List.length_take]
 omega
theorem tmod_two (n m : Nat) (h : n = m) : (Int.tmod (n : Int) 2 == 1) = (m % 2 == 1) := by
 subst h
 rw [Int.tmod_eq_emod_of_nonneg (by omega), Bool.eq_iff_iff]
 simp only [beq_iff_eq]
 omega
theorem on_go (s : ByteArray) (hn : s.size ≤ 140737488355328) (d : Nat) : ∀ (k i : Nat), i + d = s.size → d < k → (∀ c ∈ s.data.toList.reverse.take i, (c == (36 : UInt8)) = true) → Ba.l0 k s (i : Int) = some (onB s) := by
 have hl : s.data.toList.reverse.length = s.size := by rw [List.length_reverse, ← Lib.size_eq]
 induction d with
 | zero =>
  intro k i hi hk h
  obtain ⟨k, rfl⟩ : ∃ m, k = m + 1 := ⟨k - 1, by omega⟩
  have ht := takeWhile_split _ _ i h (by omega)
  rw [List.drop_of_length_le (by omega)] at ht
  have hi2 : tailN s.data.toList = i := by unfold tailN; rw [ht]; rfl
  rw [Ba.l0, if_neg (by omega)]
  unfold onB
  rw [hi2, tmod_two i i rfl]
 | succ d ih =>
  intro k i hi hk h
  obtain ⟨k, rfl⟩ : ∃ m, k = m + 1 := ⟨k - 1, by omega⟩
  have hlt : i < s.size := by omega
  have hir : i < s.data.toList.reverse.length := by omega
  have he : s.data.toList.reverse[i] = s[s.size - 1 - i] := by
   rw [List.getElem_reverse]
   have e := Lib.size_eq s
   show s.data.toList[s.data.toList.length - 1 - i] = s.data.toList[s.size - 1 - i]
   congr 1
   try omega
  have ht := takeWhile_split _ _ i h (by omega)
  have hd := List.drop_eq_getElem_cons hir
  rw [he] at hd
  have q0 : (i : Int) < (s.size : Int) := by omega
  have q1 : (0 : Int) ≤ ((s.size - 1 - i : Nat) : Int) := by omega
  have q2 : ((s.size - 1 - i : Nat) : Int) < (s.size : Int) := by omega
  have q3 : s.size - 1 - i < s.size := by omega
  have q4 : 1 ≤ s.size := by omega
  have r1 : (0 : Int) ≤ ((s.size - 1 : Nat) : Int) - (i : Int) := by omega
  have r2 : ((s.size - 1 : Nat) : Int) - (i : Int) ≤ 140737488355328 := by omega
  have r3 : ((s.size - 1 : Nat) : Int) - (i : Int) = ((s.size - 1 - i : Nat) : Int) := by omega
  have hr0 := ih
  have w1 := wrap_pred s.size q4 hn
  have w2 : wrap64 (((s.size - 1 : Nat) : Int) - (i : Int)) = ((s.size - 1 - i : Nat) : Int) := by
   rw [wrap_in _ r1 r2, r3]
  have w3 := wrap_nat i s.size hlt hn
  rw [Ba.l0, if_pos q0, w1, w2, if_pos q1, if_pos q2, Ga s _ q3, w3]
  clear w1 w2 w3
  by_cases hc : s[s.size - 1 - i] = 36
  ·rw [if_pos (by rw [hc]; rfl)]
   refine ih k (i + 1) (by omega) (by omega) (fun c hm => ?_)
   rw [List.take_succ_eq_append_getElem hir] at hm
   rcases List.mem_append.1 hm with hm | hm
   ·exact h c hm
   ·simp only [List.mem_singleton] at hm
    rw [hm, he, hc]
    rfl
  ·rw [if_neg (ne36 hc)]
   rw [hd, List.takeWhile_cons, if_neg (by simpa using hc)] at ht
   have hi2 : tailN s.data.toList = i := by unfold tailN; rw [ht]; rfl
   unfold onB
   rw [hi2, tmod_two i i rfl]
theorem refOn (k : Nat) (s : ByteArray) (hn : s.size ≤ 140737488355328) (hk : s.size < k) : Ba.f k s = some (onB s) := by
 unfold Ba.f
 exact on_go s hn s.size k 0 (by omega) hk (fun c h => by simp at h)
theorem split_go (s : ByteArray) (hn : s.size ≤ 4096) (d : Nat) : ∀ (k i fr : Nat) (out : List ByteArray), i + d = s.size → d + 2 < k → fr ≤ i → out.length ≤ i →
 Am.l0 k s 10 out (fr : Int) (i : Int) = some (out ++ (Ek ((s.data.toList.drop fr).take (i - fr)) (s.data.toList.drop i)).map mkB) := by
 have hex : ∀ a b, s.extract a b = mkB ((s.data.toList.drop a).take (b - a)) := fun a b => by
  apply ByteArray.ext
  apply Array.toList_inj.1
  rw [Lib.extract_data]
  rfl
 induction d with
 | zero =>
  intro k i fr out hi hk hf ho
  obtain ⟨k, rfl⟩ : ∃ m, k = m + 1 + 1 := ⟨k - 2, by omega⟩
  obtain rfl : i = s.size := by omega
  have hw : wrap64 ((s.size : Int) + 1) = ((s.size + 1 : Nat) : Int) := by rw [wrap_in _ (by omega) (by omega)]; omega
  have q0 : (s.size : Int) ≤ (s.size : Int) := by omega
  have q1 : (0 : Int) ≤ (fr : Int) := by omega
  have q2 : (fr : Int) ≤ (s.size : Int) := by omega
  have q3 : ¬ ((s.size + 1 : Nat) : Int) ≤ (s.size : Int) := by omega
  have q4 : out.length < 8796093022208 := by omega
  rw [Am.l0, if_pos q0, if_pos rfl, if_pos q1, if_pos q2, if_pos q4, hw, Am.l0, if_neg q3, Int.toNat_natCast, Int.toNat_natCast, hex, List.drop_of_length_le (show s.data.toList.length ≤ s.size by rw [← Lib.size_eq]; omega)]
  rfl
 | succ d ih =>
  intro k i fr out hi hk hf ho
  obtain ⟨k, rfl⟩ : ∃ m, k = m + 1 := ⟨k - 1, by omega⟩
  have hlt : i < s.size := by omega
  have hdr := E5 s i hlt
  have hw := wrap_nat i s.size hlt (by omega)
  have q0 : (i : Int) ≤ (s.size : Int) := by omega
  have q00 : ¬ (i : Int) = (s.size : Int) := by omega
  have q1 : (0 : Int) ≤ (i : Int) := by omega
  have q2 : (i : Int) < (s.size : Int) := by omega
  have q3 : (0 : Int) ≤ (fr : Int) := by omega
  have q4 : (fr : Int) ≤ (i : Int) := by omega
  have q5 : out.length < 8796093022208 := by omega
  rw [Am.l0, if_pos q0, if_neg q00, if_pos q1, if_pos q2, Ga s i hlt, hw]
  clear hw
  by_cases hc : s[i] = 10
  ·have hr := ih k (i + 1) (i + 1) (out ++ [s.extract fr i]) (by omega) (by omega) (by omega) (by simp; omega)
   rw [if_pos (by rw [hc]; rfl), if_pos q3, if_pos q4, if_pos q5, Int.toNat_natCast, Int.toNat_natCast, hr, hdr, hex]
   rw [show i + 1 - (i + 1) = 0 by omega, List.take_zero]
   simp only [Ek]
   rw [if_pos hc]
   simp
  ·have hr := ih k (i + 1) fr out (by omega) (by omega) (by omega) (by omega)
   have htk : (s.data.toList.drop fr).take (i + 1 - fr) = (s.data.toList.drop fr).take (i - fr) ++ [s[i]] := by
    have hl : i - fr < (s.data.toList.drop fr).length := by rw [List.length_drop, ← Lib.size_eq]; omega
    rw [show i + 1 - fr = (i - fr) + 1 by omega, List.take_succ_eq_append_getElem hl, List.getElem_drop]
    congr 2
    simp only [show fr + (i - fr) = i by omega]
    rfl
   rw [if_neg (ne10 hc), hr, hdr, htk]
   simp only [Ek]
   rw [if_neg hc]
theorem refSplit (k : Nat) (s : ByteArray) (hn : s.size ≤ 4096) (hk : s.size + 2 < k) : Am.f k s 10 = some ((Ek [] s.data.toList).map mkB) := by
 unfold Am.f
 have := split_go s hn s.size k 0 0 [] (by omega) hk (by omega) (by simp)
 rw [List.drop_zero, List.take_zero, List.nil_append] at this
 exact this
end Go.Proofs.YtefheailchihaaaGreatDoor.Print
end
section
namespace Go.Proofs.YtefheailchihaaaGreatDoor.Pure
open Go.RowKit Go.Lib Go.Proofs.YtefheailchihaaaGreatDoor.Print Go.Proofs.YtefheailchihaaaGreatDoorW.PrintWords Go.Proofs.YtefheailchihaaaGreatDoorW.PrintLast
theorem rows_le (rs : List ByteArray) : rs.length ≤ (Cx rs).length := by
 induction rs with
 | nil => simp
 | cons r rs ih => rw [He]; simp; omega
theorem rdOf_nat (rs : List ByteArray) (i : Nat) (h : i < rs.length) : rdOf ByteArray.empty rs (i : Int) = rs[i] := by
 simp [rdOf, h]
theorem drop_row (rs : List ByteArray) (i : Nat) (h : i < rs.length) : rs.drop i = rs[i] :: rs.drop (i + 1) := List.drop_eq_getElem_cons h
theorem unrows_drop (rs : List ByteArray) (i : Nat) (h : i < rs.length) : (Cx (rs.drop i)).length = rs[i].size + 1 + (Cx (rs.drop (i + 1))).length := by
 rw [drop_row rs i h, He]
theorem row_size (rs : List ByteArray) : ∀ r ∈ rs, r.size ≤ (Cx rs).length := by
 induction rs with
 | nil => intro r h; simp at h
 | cons q rs ih =>
  intro r h
  rw [He]
  rcases List.mem_cons.1 h with e | e
  ·subst e; omega
  ·have := ih r e; omega
theorem line_step (k : Nat) (rs : List ByteArray) (out : List S59) (t : ByteArray) (i : Int) (F : Option (List S59 × Int)) (ho : out.length ≤ 4096) (hF : Ah.l1 k rs (Gc out t) i = F) (ht : (Et t).size ≤ t.size) :
 (if (Et t).toList = ([] : List UInt8) then Ah.l1 k rs out i else if 0 < ((Et t).size : Int) then (if bt (Et t) 0 = 35 then Ah.l1 k rs out i else if 0 < (t.size : Int) then (if out.length < 5864062014805 then Ah.l1 k rs (out ++ [⟨bt t 0 == 32, Et t⟩]) i else none) else none) else none) = F := by
 rw [← hF]
 unfold Gc
 by_cases h0 : (Et t).size = 0
 ·rw [if_pos (by rw [Lib.toList_data]; exact List.length_eq_zero_iff.1 (by rw [← Lib.size_eq]; exact h0)), if_pos (Or.inl h0)]
 ·have hl : ¬ (Et t).toList = [] := fun e => h0 (by rw [Lib.size_eq, ← Lib.toList_data, e]; rfl)
  have h1 : 0 < (Et t).size := by omega
  have h2 : 0 < t.size := by omega
  have f35 := first_get 35 (Et t) h1
  have f32 := first_get 32 t h2
  rw [if_neg hl, if_pos (by omega), show (0 : Int) = ((0 : Nat) : Int) from rfl, Ga _ 0 h1, Ga t 0 h2]
  by_cases hc : ((Et t)[0].toNat : Int) = 35
  ·rw [if_pos hc, if_pos (Or.inr (by rw [f35]; exact beq_iff_eq.2 hc))]
  ·rw [if_neg hc, if_pos (by omega), if_pos (by omega), if_neg (fun h => by
    rcases h with h | h
    ·exact h0 h
    ·rw [f35] at h
     exact hc (beq_iff_eq.1 h)), f32]
   rfl
theorem lines_go (rs : List ByteArray) (hz : (Cx rs).length ≤ 2048) (m : Nat) : ∀ (k i : Nat) (out : List S59) (t last : ByteArray), i + 1 + m = rs.length → 2 * m + 6000 ≤ k → out.length ≤ i + 1 → last.size ≤ t.size → t.size + (Cx (rs.drop (i + 1))).length ≤ 2048 →
 Ah.l2 k rs out (i : Int) t last = some (after m out (Ff t last (rs.drop (i + 1)))) := by
 have hrl := rows_le rs
 induction m with
 | zero =>
  intro k i out t last hi hk ho hl hts
  obtain ⟨k, rfl⟩ : ∃ q, k = q + 1 + 1 := ⟨k - 2, by omega⟩
  have hd : rs.drop (i + 1) = [] := List.drop_of_length_le (by omega)
  have he : ((i + 1 : Nat) : Int) = (rs.length : Int) := by omega
  have he2 : ¬ ((i + 1 : Nat) : Int) < (rs.length : Int) := by omega
  have hsz := trim_size t
  have l1 : last.size ≤ 140737488355328 := by omega
  have l2 : last.size < k + 1 := by omega
  have hw := wrap_nat i rs.length (by omega) (by omega)
  rw [Ah.l2, refOn (k + 1) last l1 l2, hd, hw]
  clear hw
  simp only [Option.bind_some]
  cases hon : onB last
  ·rw [if_neg (by decide), refTrim (k + 1) t (by omega) (by omega), joinGo_off _ hon]
   simp only [Option.bind_some]
   exact line_step (k + 1) rs out t _ _ (by omega) (by rw [Ah.l1, if_neg he2]; rfl) hsz
  ·rw [if_pos rfl, if_pos he, joinGo_none hon]
   rfl
 | succ m ih =>
  intro k i out t last hi hk ho hl hts
  obtain ⟨k, rfl⟩ : ∃ q, k = q + 1 + 1 := ⟨k - 2, by omega⟩
  have hlt : i + 1 < rs.length := by omega
  have hd := drop_row rs (i + 1) hlt
  have hul := unrows_drop rs (i + 1) hlt
  have he : ¬ ((i + 1 : Nat) : Int) = (rs.length : Int) := by omega
  have he0 : (0 : Int) ≤ ((i + 1 : Nat) : Int) := by omega
  have he2 : ((i + 1 : Nat) : Int) < (rs.length : Int) := by omega
  have hsz := trim_size t
  have hfz := front_size rs[i + 1]
  have l1 : last.size ≤ 140737488355328 := by omega
  have l2 : last.size < k + 1 := by omega
  have hw := wrap_nat i rs.length (by omega) (by omega)
  rw [Ah.l2, refOn (k + 1) last l1 l2, hd, hw]
  clear hw
  simp only [Option.bind_some]
  cases hon : onB last
  ·rw [if_neg (by decide), refTrim (k + 1) t (by omega) (by omega), joinGo_off _ hon]
   simp only [Option.bind_some]
   have hol : (Gc out t).length ≤ i + 1 + 1 := by
    unfold Gc
    split
    ·omega
    ·rw [List.length_append, List.length_singleton]; omega
   have h2 := ih k (i + 1) (Gc out t) rs[i + 1] rs[i + 1] (by omega) (by omega) hol (Nat.le_refl _) (by omega)
   refine line_step (k + 1) rs out t _ _ (by omega) ?_ hsz
   rw [Ah.l1, if_pos he2, if_pos he0, rdOf_nat rs (i + 1) hlt, h2]
   show _ = some (E8 (m + 1) (rs[i + 1] :: rs.drop (i + 1 + 1)) (Gc out t))
   rw [Ih]
  ·have hlp := on_pos hon
   have g0 : (0 : Int) ≤ ((t.size - 1 : Nat) : Int) := by omega
   have g1 : ((t.size - 1 : Nat) : Int) ≤ (t.size : Int) := by omega
   have hez : (t.extract 0 (t.size - 1)).size = t.size - 1 := by simp
   have g2 : (t.extract 0 (t.size - 1)).size + (Fp rs[i + 1]).size ≤ 9223372036854775807 := by omega
   have haz : (t.extract 0 (t.size - 1) ++ Fp rs[i + 1]).size = t.size - 1 + (Fp rs[i + 1]).size := by rw [ByteArray.size_append, hez]
   have h2 := ih (k + 1) (i + 1) out (t.extract 0 (t.size - 1) ++ Fp rs[i + 1]) (Fp rs[i + 1]) (by omega) (by omega) (by omega) (by rw [haz]; omega) (by rw [haz]; omega)
   rw [if_pos rfl, if_neg he, if_pos he0, if_pos he2, rdOf_nat rs (i + 1) hlt, refFront (k + 1) rs[i + 1] (by omega) (by omega)]
   simp only [Option.bind_some]
   have hwp := wrap_pred t.size (by omega) (by omega)
   rw [hwp, if_pos g0, if_pos g1, Int.toNat_natCast, if_pos g2, h2, joinGo_on _ _ hon]
   clear hwp
   congr 1
   cases hj : Ff (t.extract 0 (t.size - 1) ++ Fp rs[i + 1]) (Fp rs[i + 1]) (rs.drop (i + 1 + 1)) with
   | none => rfl
   | some p =>
    have := join_len _ _ _ p hj
    rw [List.length_drop] at this
    exact go_fuel m p.2 (Gc out p.1) (m + 1) (by omega) (by omega)
theorem plain_rows_go (rs : List ByteArray) (hz : (Cx rs).length ≤ 2048) (F : List S59 × Int) (hF : ∀ k, 2 * rs.length + 7000 ≤ k → Ah.l1 k rs [] 0 = some F) (d : Nat) : ∀ (k i : Nat), i + d = rs.length → d + 2 * rs.length + 8000 ≤ k →
 Ah.l0 k rs (i : Int) = some (if Gk (rs.drop i) = true then F else ([], 600)) := by
 have hrl := rows_le rs
 induction d with
 | zero =>
  intro k i hi hk
  obtain ⟨k, rfl⟩ : ∃ q, k = q + 1 := ⟨k - 1, by omega⟩
  rw [Ah.l0, if_neg (by omega), hF k (by omega), List.drop_of_length_le (by omega)]
  rfl
 | succ d ih =>
  intro k i hi hk
  obtain ⟨k, rfl⟩ : ∃ q, k = q + 1 := ⟨k - 1, by omega⟩
  have hlt : i < rs.length := by omega
  have hrz := row_size rs rs[i] (List.getElem_mem hlt)
  have hi2 := ih k (i + 1) (by omega) (by omega)
  have q0 : (i : Int) < (rs.length : Int) := by omega
  have q1 : (0 : Int) ≤ (i : Int) := by omega
  have l1 : rs[i].size ≤ 140737488355328 := by omega
  have l2 : rs[i].size < k := by omega
  have hw := wrap_nat i rs.length hlt (by omega)
  rw [Ah.l0, if_pos q0, if_pos q1, rdOf_nat rs i hlt, refPlainD rs[i] 2048 l1 k l2, hw]
  clear hw
  simp only [Option.bind_some]
  have hp : Do rs[i] 2048 = Dn rs[i].data.toList := by unfold Do; rw [decide_eq_true (by omega), Bool.and_true]
  have hd : Gk (rs.drop i) = (Dn rs[i].data.toList && Gk (rs.drop (i + 1))) := by
   rw [drop_row rs i hlt]
   rfl
  rw [hp, hd]
  cases Dn rs[i].data.toList
  ·simp
  ·rw [if_pos rfl, hi2, Bool.true_and]
theorem refLines (s : ByteArray) (hn : s.size ≤ 140737488355328) (k : Nat) (hk : 20000 ≤ k) : Ah.f k s = some (Ef s) := by
 obtain ⟨k, rfl⟩ : ∃ q, k = q + 1 := ⟨k - 1, by omega⟩
 have hbad : Ah.j0 (k + 1) s true = some ([], 600) := by rw [Ah.j0, if_pos rfl]
 unfold Ah.f
 by_cases h48 : (s.size : Int) > 2048
 ·rw [if_pos h48, hbad]
  unfold Ef
  rw [if_neg (by unfold mayB; rw [decide_eq_false (by omega)]; simp)]
 ·have hgood : (s.size = 0 ∨ Lib.hasSuffix s.data.toList [10] = true) → Ah.j0 (k + 1) s false = some (Ef s) := by
   intro hend
   have hU : s = U (rowsOf s) := by unfold U; rw [rows_unrows s hend]
   have hnn := rows_noNl s
   have hsp := refSplit k s (by omega) (by omega)
   have hlen : (Cx (rowsOf s)).length ≤ 2048 := by rw [rows_unrows s hend, ← Lib.size_eq]; omega
   have hrl := rows_le (rowsOf s)
   have hmap : ((Ek [] s.data.toList).map mkB) = rowsOf s ++ [⟨#[]⟩] := by
    have h1 : s.data.toList = Cx (rowsOf s) := (rows_unrows s hend).symm
    rw [h1, split_rows _ hnn, List.map_append, List.map_map]
    congr 1
    conv => rhs; rw [← List.map_id (rowsOf s)]
    rfl
   have hcut : Ef s = if Gk (rowsOf s) = true then E8 (rowsOf s).length (rowsOf s) [] else ([], 600) := by
    have := cut_rows (rowsOf s) hnn
    rw [← hU] at this
    rw [this]
    by_cases hp : Gk (rowsOf s) = true
    ·rw [if_pos ⟨by omega, hp⟩, if_pos hp]
    ·rw [if_neg (fun h => hp h.2), if_neg hp]
   rw [hcut]
   generalize rowsOf s = rs at *
   rw [Ah.j0, if_neg (by decide), hsp, hmap]
   simp only [Option.bind_some]
   have hll : ((rs ++ [(⟨#[]⟩ : ByteArray)]).length : Int) - 1 = ((rs.length : Nat) : Int) := by rw [List.length_append, List.length_singleton]; omega
   rw [hll, wrap_in _ (by omega) (by omega), if_pos (by omega), if_pos (by rw [List.length_append]; omega), Int.toNat_natCast, List.take_left]
   refine plain_rows_go rs hlen _ (fun q hq => ?_) rs.length k 0 (by omega) (by omega)
   obtain ⟨q, rfl⟩ : ∃ q', q = q' + 1 := ⟨q - 1, by omega⟩
   cases hrs : rs with
   | nil =>
    rw [Ah.l1, if_neg (by simp)]
    rfl
   | cons r rs' =>
    rw [← hrs]
    have hlt : 0 < rs.length := by rw [hrs]; simp
    have h0 : rs[0] = r := by simp [hrs]
    have hd1 : rs.drop (0 + 1) = rs' := by rw [hrs]; rfl
    have hul := unrows_drop rs 0 hlt
    rw [List.drop_zero] at hul
    have := lines_go rs hlen (rs.length - 1) q 0 [] rs[0] rs[0] (by omega) (by omega) (by simp) (Nat.le_refl _) (by omega)
    rw [Ah.l1, if_pos (by omega), if_pos (by omega), show (0 : Int) = ((0 : Nat) : Int) from rfl, rdOf_nat rs 0 hlt, this, hd1, h0]
    conv => rhs; rw [hrs]
    show _ = some (E8 (rs'.length + 1) (r :: rs') [])
    rw [Ih, hrs]
    rfl
  rw [if_neg h48]
  by_cases h0 : (s.size : Int) > 0
  ·have hwp := wrap_pred s.size (by omega) (by omega)
   have q0 : (0 : Int) ≤ ((s.size - 1 : Nat) : Int) := by omega
   have q1 : ((s.size - 1 : Nat) : Int) < (s.size : Int) := by omega
   have q2 : s.size - 1 < s.size := by omega
   have hl := list_init s (by omega)
   rw [if_pos h0, hwp, if_pos q0, if_pos q1, Ga s _ q2]
   clear hwp
   have hsf : Lib.hasSuffix s.data.toList [10] = (s[s.size - 1] == 10) := by
    rw [hl]
    unfold Lib.hasSuffix
    rw [Bool.eq_iff_iff, List.isSuffixOf_iff_suffix]
    constructor
    ·rintro ⟨t, ht⟩
     have := congrArg List.getLast? ht
     simp at this
     simp [this]
    ·intro e
     rw [beq_iff_eq] at e
     rw [e]
     exact List.suffix_append _ _
   by_cases hc : s[s.size - 1] = 10
   ·have hb : ((s[s.size - 1].toNat : Int) != 10) = false := by rw [hc]; rfl
    rw [hb]
    exact hgood (Or.inr (by rw [hsf]; simpa using hc))
   ·have hb : ((s[s.size - 1].toNat : Int) != 10) = true := bne_iff_ne.2 (ne10 hc)
    rw [hb, hbad]
    unfold Ef
    have hm : mayB s = false := by
     unfold mayB
     have e1 : Lib.hasSuffix s.data.toList [10] = false := by rw [hsf]; simpa using hc
     rw [e1, decide_eq_false (show ¬ s.size = 0 by omega)]
     simp
    rw [hm, if_neg (by decide)]
  ·rw [if_neg h0]
   exact hgood (Or.inl (by omega))
end Go.Proofs.YtefheailchihaaaGreatDoor.Pure
namespace Go.Proofs.YtefheailchihaaaGreatDoor.Print
open Go.RowKit Go.Lib Go.Proofs.YtefheailchihaaaGreatDoorW.PrintWords Go.Proofs.YtefheailchihaaaGreatDoorW.PrintLast
end Go.Proofs.YtefheailchihaaaGreatDoor.Print
end
