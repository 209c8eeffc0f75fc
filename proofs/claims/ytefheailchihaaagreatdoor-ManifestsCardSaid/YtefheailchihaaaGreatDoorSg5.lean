import Derived.Laws.RangeAny
import Derived.Outline
import Derived.Lib.Hide
import Derived.Test.YtefheailchihaaaGreatDoorSg4
set_option maxHeartbeats 8000000
set_option maxRecDepth 100000
set_option linter.unusedVariables false
set_option linter.unusedSimpArgs false
section
namespace Go.Proofs.YtefheailchihaaaGreatDoor.Print
open Go.RowKit Go.Lib Go.Shelf Go.Proofs.YtefheailchihaaaGreatDoorW.PrintWords Go.Proofs.YtefheailchihaaaGreatDoorW.PrintLast Go.Proofs.YtefheailchihaaaGreatDoorW.PrintMore
def varB (r : Int) : Bool := (decide (97 ≤ r) && decide (r ≤ 122)) || ((decide (48 ≤ r) && decide (r ≤ 57)) || r == 95)
def oneB (r : Int) : Bool := decide (r < 128) && (varB r || (r == 46 || r == 45 || r == 47))
def Ce (s : ByteArray) : Bool := decide (1 ≤ s.size) && (decide (s.size ≤ 16) && s.data.toList.all fun b => oneB b.toNat)
def name_May.f (a0 : ByteArray) : Option Bool := some (Ce a0)
theorem Ee {x y : Bool} (h : x = y) : Ending.returned (.bool x) = .returned (.bool y) := by rw [h]
theorem name_Var_calls (b : Int) (w : World) :
 Calls Tryz.prog 142 #[.int .u8 b] w fun e w' => e = .returned (.bool (varB b)) ∧ w = w' := by
 by_cases h1 : 97 ≤ b <;> by_cases h2 : b ≤ 122 <;> by_cases h3 : 48 ≤ b <;> by_cases h4 : b ≤ 57 <;> by_cases h5 : b = 95 <;> first
  | (exfalso; omega)
  | (go_enter Tryz.func142, Tryz.ntmps142
     go_wp2
     go_ret
     exact ⟨Ee (by unfold varB; rw [Bool.eq_iff_iff]; simp <;> omega), rfl⟩)
theorem indexByte_three (r : Nat) (h : r < 128) : decide (0 ≤ Lib.indexByte [46, 45, 47] r.toUInt8) = ((r : Int) == 46 || (r : Int) == 45 || (r : Int) == 47) := by
 have : ∀ r : Fin 128, decide (0 ≤ Lib.indexByte [46, 45, 47] r.val.toUInt8) = ((r.val : Int) == 46 || (r.val : Int) == 45 || (r.val : Int) == 47) := by decide +kernel
 exact this ⟨r, h⟩
theorem name_one_calls (r : Nat) (w : World) :
 Calls Tryz.prog 107 #[.int .i32 r] w fun e w' => e = .returned (.bool (oneB r)) ∧ w = w' := by
 by_cases h1 : r < 128
 ·have hb := Lib.hid (indexByte_three r h1)
  have hd : decide ((r : Int) < 128) = true := by simp; omega
  go_enter Tryz.func107, Tryz.ntmps107
  go_wp2_with (first | (go_at_call 142; refine (name_Var_calls _ _).mono ?_; rintro e w' ⟨rfl, rfl⟩) | (go_at_call 104; refine (Tryz.strings_ContainsRune_ascii _ _ _ (by omega) (by omega)).mono ?_; rintro e w' ⟨rfl, rfl⟩))
  ·have hv : varB r = true := by assumption
   go_ret
   exact ⟨Ee (by simp [oneB, hv, hd]), rfl⟩
  ·have hv : ¬ varB r = true := by assumption
   go_ret
   exact ⟨Ee (by rw [hb.out]; simp [oneB, hv, hd]), rfl⟩
 ·go_enter Tryz.func107, Tryz.ntmps107
  go_wp2
  go_ret
  exact ⟨Ee (by unfold oneB; simp; omega), rfl⟩
theorem name_odd_calls (r : Nat) (w : World) :
 Calls Tryz.prog 106 #[.int .i32 r] w fun e w' => e = .returned (.bool (!oneB r)) ∧ w = w' := by
 go_enter Tryz.func106, Tryz.ntmps106
 go_wp2_with (first | (go_at_call 107; refine (name_one_calls _ _).mono ?_; rintro e w' ⟨rfl, rfl⟩))
 go_ret
 exact ⟨rfl, rfl⟩
theorem odd_pred (w : World) : PredAt Tryz.prog 106 #[] encR (fun r => !oneB (r : Int)) w := fun W x _ =>
 (name_odd_calls x W).mono fun _ _ ⟨he, hw⟩ => ⟨he, 0, hw ▸ rfl⟩
theorem idx_from (s : ByteArray) (f pos : Nat) (h : s.size ≤ pos + f) :
 decide (0 ≤ Lib.idxFuncFrom (fun r => !oneB (r : Int)) true s f pos) = !(s.data.toList.drop pos).all fun b => oneB b.toNat := by
 induction f generalizing pos with
 | zero =>
  have : s.data.toList.drop pos = [] := List.drop_of_length_le (by have := ByteArray.size_data (a := s); simp only [Array.length_toList]; omega)
  simp [Lib.idxFuncFrom, this]
 | succ f ih =>
  by_cases hp : pos < s.size
  ·have hl : pos < s.data.toList.length := by simpa using hp
   have hd : s.data.toList.drop pos = s[pos] :: s.data.toList.drop (pos + 1) := by
    rw [List.drop_eq_getElem_cons hl]; rfl
   by_cases ha : (s[pos]'hp).toNat < 128
   ·have he := decode_ascii s pos hp ha
    simp only [Lib.idxFuncFrom, hp, if_true, he, hd, List.all_cons]
    cases ho : oneB ((s[pos]'hp).toNat : Int)
    ·simp
    ·simp only [Bool.not_true, Bool.false_eq_true, if_false, Bool.true_and]
     exact ih (pos + 1) (by omega)
   ·have he := decode_high s pos hp (by omega)
    have ho : oneB ((Utf8.decode s pos).1 : Int) = false := by unfold oneB; simp; omega
    have ho2 : oneB ((s[pos]'hp).toNat : Int) = false := by unfold oneB; simp; omega
    simp only [Lib.idxFuncFrom, hp, if_true, hd, List.all_cons, ho, ho2]
    simp
  ·have : s.data.toList.drop pos = [] := List.drop_of_length_le (by have := ByteArray.size_data (a := s); simp only [Array.length_toList]; omega)
   simp [Lib.idxFuncFrom, this, hp]
theorem idx_all (s : ByteArray) : decide (0 ≤ Lib.idxFunc (fun r => !oneB (r : Int)) true s) = !s.data.toList.all fun b => oneB b.toNat := by
 unfold Lib.idxFunc
 rw [idx_from s s.size 0 (by omega), List.drop_zero]
theorem Fg {s : ByteArray} (h : ¬ 1 ≤ s.size) : s.toList = [] := by
 rw [Lib.toList_data]
 exact List.eq_nil_of_length_eq_zero (by rw [← Lib.size_eq]; omega)
theorem E2 {s : ByteArray} (h : 1 ≤ s.size) : ¬ s.toList = [] := by
 rw [Lib.toList_data]
 intro h2
 have := congrArg List.length h2
 rw [← Lib.size_eq, List.length_nil] at this
 omega
theorem name_May.calls (a0 : ByteArray) (r : Bool) (w : World) (h : name_May.f a0 = some r) :
 Calls Tryz.prog 76 #[.string a0] w fun e w' => e = .returned (.bool r) ∧ Below w.heap.size w w' := by
 obtain rfl := Option.some.inj h
 clear h
 have hc : ∀ W, Calls Tryz.prog 108 #[.string a0, .func (.func 106) #[] #[]] W fun e w' => e = .returned (.bool (!a0.data.toList.all fun b => oneB b.toNat)) ∧ Below W.heap.size W w' := fun W => by
  have := Tryz.strings_ContainsFunc 106 #[] (enters_of Tryz.func106 (by kernel_rfl) rfl) (fun r => !oneB (r : Int)) a0 W (odd_pred W)
  rwa [idx_all] at this
 have Hc := Lib.hid hc
 clear hc
 obtain ⟨A, hA⟩ : ∃ A, (a0.data.toList.all fun b => oneB b.toNat) = A := ⟨_, rfl⟩
 have hm : Ce a0 = (decide (1 ≤ a0.size) && (decide (a0.size ≤ 16) && A)) := by rw [← hA]; rfl
 rw [hm]
 rw [hA] at Hc
 clear hA hm
 by_cases h0 : 1 ≤ a0.size
 ·have hn : (a0.toList == []) = false := beq_eq_false_iff_ne.2 (E2 h0)
  by_cases h1 : a0.size ≤ 16
  ·go_enter Tryz.func76, Tryz.ntmps76
   go_wp2_with (first | (go_at_call 108; refine (Hc.out _).mono ?_; rintro e w' ⟨rfl, hb⟩))
   go_ret
   exact ⟨Ee (by simp [h0, h1]), hb⟩
  ·go_enter Tryz.func76, Tryz.ntmps76
   go_wp2
   go_ret
   exact ⟨Ee (by simp), Below.refl _ _⟩
 ·have hn : a0.toList = [] := Fg h0
  go_enter Tryz.func76, Tryz.ntmps76
  go_wp2
  go_ret
  exact ⟨Ee (by simp [h0]), Below.refl _ _⟩
theorem Gl (a : ByteArray) (w : World) : Calls Tryz.prog 76 #[.string a] w fun e w' => e = .returned (.bool (Ce a)) ∧ Below w.heap.size w w' := name_May.calls a _ w rfl
theorem Hq {x y : Int} (h : x = y) : Ending.returned (.int .i64 x) = .returned (.int .i64 y) := by rw [h]
theorem ret_str {x y : ByteArray} (h : x = y) : Ending.returned (.string x) = .returned (.string y) := by rw [h]
theorem bel {w w1 w2 : World} (h : Below w.heap.size w w1) (k : Below w1.heap.size w1 w2) : Below w.heap.size w w2 := h.trans (k.mono h.size)
theorem bcell {W w1 : World} (hb : Below W.heap.size W w1) : (∀ b o, b < W.heap.size → w1.cell? ⟨b, o, none⟩ = W.cell? ⟨b, o, none⟩) ∧ (∀ b o, b < W.heap.size → w1.frozen? ⟨b, o, none⟩ = W.frozen? ⟨b, o, none⟩) :=
 ⟨fun b o h => hb.cell (p := ⟨b, o, none⟩) h, fun b o h => hb.frozen (p := ⟨b, o, none⟩) h⟩
theorem Hb {α : Type} {d : Kd α} {w : World} {A : Option Addr} {n : Nat} {xs : List α} (h : Kd.C d w A n xs) : n ≤ 9223372036854775807 := h.2.1
theorem C_addr {α : Type} {d : Kd α} {w : World} {A : Option Addr} {n : Nat} {xs : List α} (h : Kd.C d w A n xs) (h0 : 0 < n) : ∃ ad, A = some ad := by
 obtain ⟨ad, e, _⟩ := h.2.2 h0
 exact ⟨ad, e⟩
theorem E5 (s : ByteArray) (i : Nat) (h : i < s.size) : s.data.toList.drop i = s[i] :: s.data.toList.drop (i + 1) := by
 rw [List.drop_eq_getElem_cons (by simpa using h)]
 rfl
theorem drop_end (s : ByteArray) (i : Nat) (h : s.size ≤ i) : s.data.toList.drop i = [] := List.drop_of_length_le (by have := ByteArray.size_data (a := s); simp only [Array.length_toList]; omega)
def Dn (l : List UInt8) : Bool := l.all fun b => decide (32 ≤ (b.toNat : Int)) && decide ((b.toNat : Int) ≤ 126)
def Do (s : ByteArray) (m : Int) : Bool := Dn s.data.toList && decide ((s.size : Int) ≤ m)
theorem H7 (s : ByteArray) (m : Int) (w : World) (hs : s.size ≤ 9223372036854775807) :
 Calls Tryz.prog 64 #[.string s, .int .i64 m] w fun e w' => e = .returned (.bool (Do s m)) ∧ w = w' := by
 go_enter Tryz.func64, Tryz.ntmps64
 go_wp2
 go_loop [8] (fun v8 => ∃ k : Nat, v8 = .int .i64 k ∧ k ≤ s.size ∧ Aa (Dn (s.data.toList.drop k) = Dn s.data.toList)) (fun v8 => s.size - (intOf v8).toNat)
 case atStart => exact ⟨0, rfl, by omega, ⟨by rw [List.drop_zero]⟩⟩
 case round =>
  obtain ⟨k, rfl, hk, hf⟩ := hrel
  by_cases hlt : k < s.size
  ·have hd := E5 s k hlt
   have hq : Dn s.data.toList = (decide (32 ≤ (s[k].toNat : Int)) && decide ((s[k].toNat : Int) ≤ 126) && Dn (s.data.toList.drop (k + 1))) := by
    rw [← hf.out, hd]; rfl
   have HQ := Lib.hid hq
   clear hd hq
   go_wp2
   ·have h1 : 32 ≤ (s[k].toNat : Int) := by assumption
    have h2 : (s[k].toNat : Int) < 32 ∨ 126 < (s[k].toNat : Int) := by assumption
    have h3 : ¬ (s[k].toNat : Int) ≤ 126 := by omega
    go_ret
    exact ⟨Ee (by unfold Do; rw [HQ.out]; simp [h3]), rfl⟩
   ·have h1 : 32 ≤ (s[k].toNat : Int) ∧ (s[k].toNat : Int) ≤ 126 := by assumption
    exact ⟨⟨k + 1, by go_num, by omega, ⟨by rw [HQ.out]; simp [h1.1, h1.2]⟩⟩, by simp [intOf]; omega⟩
   ·have h2 : (s[k].toNat : Int) < 32 := by assumption
    have h3 : ¬ 32 ≤ (s[k].toNat : Int) := by omega
    go_ret
    exact ⟨Ee (by unfold Do; rw [HQ.out]; simp [h3]), rfl⟩
  ·have hd := drop_end s k (by omega)
   have hq : Dn s.data.toList = true := by rw [← hf.out, hd]; rfl
   have HQ := Lib.hid hq
   clear hd hq
   go_wp2
   go_ret
   exact ⟨Ee (by unfold Do; rw [HQ.out]; simp), rfl⟩
def Ec (c : UInt8) : List UInt8 → List UInt8 → List (List UInt8)
 | cur, [] => [cur]
 | cur, d :: l => if d = c then cur :: Ec c [] l else Ec c (cur ++ [d]) l
def splitB (c : UInt8) (l : List UInt8) : List ByteArray := (Ec c [] l).map fun r => ⟨r.toArray⟩
theorem splitC_none (c : UInt8) (l : List UInt8) (h : ∀ d ∈ l, d ≠ c) : ∀ cur, Ec c cur l = [cur ++ l] := by
 induction l with
 | nil => intro cur; simp [Ec]
 | cons d l ih =>
  intro cur
  have hd : d ≠ c := h d (List.mem_cons_self ..)
  simp only [Ec]
  rw [if_neg hd, ih (fun x hx => h x (List.mem_cons_of_mem _ hx)), List.append_assoc]
  rfl
theorem splitC_app (c : UInt8) (a l : List UInt8) (h : ∀ d ∈ a, d ≠ c) : ∀ cur, Ec c cur (a ++ c :: l) = (cur ++ a) :: Ec c [] l := by
 induction a with
 | nil => intro cur; simp [Ec]
 | cons d a ih =>
  intro cur
  have hd : d ≠ c := h d (List.mem_cons_self ..)
  rw [List.cons_append]
  simp only [Ec]
  rw [if_neg hd, ih (fun x hx => h x (List.mem_cons_of_mem _ hx)), List.append_assoc]
  rfl
theorem splitC_len (c : UInt8) (l : List UInt8) : ∀ cur, (Ec c cur l).length = l.count c + 1 := by
 induction l with
 | nil => intro cur; simp [Ec]
 | cons d l ih =>
  intro cur
  simp only [Ec]
  by_cases h : d = c
  ·subst h; rw [if_pos rfl, List.length_cons, ih, List.count_cons_self]
  ·rw [if_neg h, ih, List.count_cons_of_ne h]
theorem splitB_len (c : UInt8) (l : List UInt8) : (splitB c l).length = l.count c + 1 := by unfold splitB; rw [List.length_map, splitC_len]
theorem split_idx (c : UInt8) (l : List UInt8) (h : 1 ≤ l.count c) : ∃ j : Nat, Lib.indexByte l c = (j : Int) ∧ j < l.length ∧ splitB c l = ⟨(l.take j).toArray⟩ :: splitB c (l.drop (j + 1)) ∧ l.count c = (l.drop (j + 1)).count c + 1 := by
 rcases Int.lt_or_le (Lib.indexByte l c) 0 with h0 | h0
 ·have h1 : Lib.indexByte l c = -1 := by have := Lib.indexByte_ge l c; omega
  have hn := Lib.indexByte_none h1
  have : c ∉ l := fun hm => by
   obtain ⟨i, hi, he⟩ := List.mem_iff_getElem.1 hm
   exact hn i (by rw [List.getElem?_eq_getElem hi, he])
  rw [List.count_eq_zero_of_not_mem this] at h
  omega
 ·obtain ⟨j, hj⟩ := Int.eq_ofNat_of_zero_le h0
  obtain ⟨hx, hy⟩ := Lib.indexByte_some hj
  have hlt : j < l.length := (List.getElem?_eq_some_iff.mp hx).1
  have he : l[j] = c := (List.getElem?_eq_some_iff.mp hx).2
  have hd : l = l.take j ++ (c :: l.drop (j + 1)) := by
   conv => lhs; rw [← List.take_append_drop j l, List.drop_eq_getElem_cons hlt, he]
  have ht : ∀ d ∈ l.take j, d ≠ c := fun d hd2 e => by
   obtain ⟨i, hi, hc2⟩ := List.mem_iff_getElem.1 hd2
   rw [List.length_take] at hi
   rw [List.getElem_take] at hc2
   exact hy i (by omega) (by rw [List.getElem?_eq_getElem (by omega), hc2, e])
  refine ⟨j, hj, hlt, ?_, ?_⟩
  ·conv => lhs; rw [hd]
   unfold splitB
   rw [splitC_app c _ _ ht]
   simp
  ·conv => lhs; rw [hd]
   rw [List.count_append, List.count_cons_self, List.count_eq_zero_of_not_mem (fun hm => ht _ hm rfl)]
   omega
theorem split_none (c : UInt8) (l : List UInt8) (h : l.count c = 0) : splitB c l = [⟨l.toArray⟩] := by
 unfold splitB
 rw [splitC_none c l (fun d hd e => by subst e; have := List.count_pos_iff.2 hd; omega)]
 simp
theorem ba_ext {a b : ByteArray} (h : a.data.toList = b.data.toList) : a = b := by
 obtain ⟨⟨a⟩⟩ := a
 obtain ⟨⟨b⟩⟩ := b
 exact congrArg (fun l => ByteArray.mk ⟨l⟩) h
theorem take_set_succ {α : Type} (xs : List α) (i : Nat) (x : α) (h : i < xs.length) : (xs.set i x).take (i + 1) = xs.take i ++ [x] := by
 rw [List.take_succ_eq_append_getElem (by rw [List.length_set]; exact h), List.take_set_of_le (Nat.le_refl i), List.getElem_set_self]
theorem set_last {α : Type} (xs : List α) (i : Nat) (x : α) (h : xs.length = i + 1) : xs.set i x = xs.take i ++ [x] := by
 rw [← take_set_succ xs i x (by omega), List.take_of_length_le (by rw [List.length_set]; omega)]
theorem genSplit_calls (c : UInt8) (s : ByteArray) (hs : s.size ≤ 1048576) (w : World) :
 Calls Tryz.prog 147 #[.string s, .string ⟨#[c]⟩, .int .i64 0, .int .i64 (-1)] w fun e w' => ∃ v : Value, e = .returned v ∧ Kd.R Kd.string 9 w' w.heap.size (fun _ => True) v (splitB c s.data.toList) ∧ Below w.heap.size w w' := by
 have hcl : s.data.toList.count c ≤ s.size := by rw [Lib.size_eq]; exact List.count_le_length
 obtain ⟨cn, hcn⟩ : ∃ cn : Nat, s.data.toList.count c = cn := ⟨_, rfl⟩
 have hC : Hid (Lib.countByte s.data.toList c = cn) := Lib.hid hcn
 rw [hcn] at hcl
 have HCN := Lib.hid hcn
 clear hcn
 go_enter Tryz.func147, Tryz.ntmps147
 go_wp2_with fail
 refine (Tryz.strings_Count_one s c _).mono ?_
 rintro e w' ⟨rfl, hw⟩
 rw [hw, hC.out]
 clear hw hC
 have hmin : min ((cn : Int) + 1) ((s.size : Int) + 1) = (cn : Int) + 1 := by omega
 have hmin2 : min (cn : Int) (s.size : Int) = (cn : Int) := by omega
 go_wp2_with ((with_reducible refine gate_dst (N := 31) rfl ?_); refine Kd.R_make Kd.string w.heap.size 9 rfl (N := 31) rfl 24 _ _ rfl ((cn + 1 : Nat) : Int) rfl rfl Tryz.underlying24 (.string ⟨#[]⟩) 16 Hh rfl (by decide) (by omega) ⟨#[]⟩ (ok := fun _ => True) (okp := fun _ => True) rfl (fun _ hk => hk) trivial (by omega) (by omega) (Below.refl _ _) (Nat.le_refl _) ?_; intro v31 w1 ho hb hg hnew; clear hg hnew)
 rw [Int.toNat_natCast] at ho
 obtain ⟨g, cap, hv, hgb, hgl, cells, hcells⟩ := Kd.Gy ho (by rw [List.length_replicate]; omega)
 rw [List.length_replicate] at hv
 subst hv
 have hcap : cn + 1 ≤ cap := by have := (Kd.R_reads' ho).2.1; omega
 clear hcells
 have HO := Aa.mk ho
 have HB := Aa.mk hb
 have HGB := Lib.hid hgb
 clear ho hb hgb
 go_loopw [0, 10] (fun v0 v10 wr => ∃ (i : Nat) (cur : ByteArray) (xs : List ByteArray), v10 = .int .i64 i ∧ v0 = .string cur ∧ i ≤ cn ∧ cur.size ≤ s.size ∧ Aa (xs.length = cn + 1) ∧ Aa (Kd.R Kd.string 9 wr w.heap.size (fun _ => True) (.slice (some ⟨g, 0, none⟩) (cn + 1) cap) xs) ∧ Aa (Below w.heap.size w wr) ∧
  Aa (xs.take i ++ splitB c cur.data.toList = splitB c s.data.toList) ∧ Aa (cur.data.toList.count c + i = cn)) (fun v0 v10 _ => cn - (RowKit.intOf v10).toNat)
 case atStart => exact ⟨0, s, _, rfl, rfl, by omega, by omega, ⟨List.length_replicate ..⟩, HO, HB, ⟨by simp⟩, ⟨HCN.out⟩⟩
 case round =>
  obtain ⟨i, cur, xs, rfl, rfl, hi, hst, HL, HR, HW, HS, HC⟩ := hrel
  have hi0 : (0 : Int) ≤ (i : Int) := by omega
  have hi1 : (i : Int) < (cn : Int) + 1 := by omega
  obtain ⟨hx, hf⟩ := Kd.R_celln (⟨#[]⟩ : ByteArray) HR.out (i : Int) hi0 (by omega)
  rw [Int.toNat_natCast] at hx hf
  have hput := fun x => Kd.R_putn HR.out (i : Int) x
  simp only [Int.toNat_natCast] at hput
  have HP := Lib.hid hput
  clear hput
  by_cases hlt : i < cn
  ·obtain ⟨j, hj, hjl, hn, hc⟩ := split_idx c cur.data.toList (by have := HC.out; omega)
   have hjs : j < cur.size := by rw [← Lib.size_eq] at hjl; omega
   have HJ := Lib.hid hj
   have HN := Lib.hid hn
   have HC2 := Lib.hid hc
   clear hj hn hc hjl
   have p2 : (0 : Int) ≤ (j : Int) := by omega
   have p3 : (j : Int) ≤ (cur.size : Int) := by omega
   have p4 : (0 : Int) ≤ (j : Int) + 1 := by omega
   have p5 : (j : Int) + 1 ≤ (cur.size : Int) := by omega
   go_wp2_with fail
   refine (Tryz.strings_Index_one _ c _).mono ?_
   rintro e w' ⟨rfl, hw⟩
   rw [hw, HJ.out]
   clear hw
   go_wp2_with fail
   have hdd : (cur.extract (j + 1) cur.size).data.toList = cur.data.toList.drop (j + 1) := by
    rw [Lib.extract_data, List.take_of_length_le (by rw [List.length_drop, ← Lib.size_eq]; omega)]
   have htt : cur.extract 0 j = ⟨(cur.data.toList.take j).toArray⟩ := by
    apply ba_ext
    rw [Lib.extract_data, Nat.sub_zero, List.drop_zero]
   refine ⟨⟨i + 1, cur.extract (j + 1) cur.size, xs.set i (cur.extract 0 j), by go_num, rfl, by omega, by simp; omega, ⟨by rw [List.length_set]; exact HL.out⟩, ⟨HP.out _⟩, ⟨HW.out.setCell HGB.out _⟩, ⟨?_⟩, ⟨?_⟩⟩, by simp [RowKit.intOf]; omega⟩
   ·rw [hdd, take_set_succ xs i _ (by have := HL.out; omega), List.append_assoc, htt]
    have := HS.out
    rw [HN.out] at this
    exact this
   ·rw [hdd]
    have h1 := HC.out
    have h2 := HC2.out
    omega
  ·go_wp2_with fail
   go_ret
   obtain rfl : i = cn := by omega
   refine ⟨_, rfl, ?_, HW.out.setCell HGB.out _⟩
   have h0 : cur.data.toList.count c = 0 := by have := HC.out; omega
   have h1 := HS.out
   rw [split_none c _ h0] at h1
   rw [← h1]
   have h2 := HP.out cur
   rw [set_last xs i cur HL.out] at h2
   exact h2
theorem split_calls (c : UInt8) (s : ByteArray) (hs : s.size ≤ 1048576) (w : World) :
 Calls Tryz.prog 119 #[.string s, .string ⟨#[c]⟩] w fun e w' => ∃ v : Value, e = .returned v ∧ Kd.R Kd.string 9 w' w.heap.size (fun _ => True) v (splitB c s.data.toList) ∧ Below w.heap.size w w' := by
 go_enter Tryz.func119, Tryz.ntmps119
 go_wp2_with fail
 refine (genSplit_calls c s hs _).mono ?_
 rintro e w1 ⟨v, rfl, hR, hb⟩
 go_wp2_with fail
 go_ret
 exact ⟨v, rfl, hR, hb⟩
def noNl (l : List UInt8) : List UInt8 := l.filter fun c => c != 10
theorem noNl_app (a b : List UInt8) : noNl (a ++ b) = noNl a ++ noNl b := by unfold noNl; rw [List.filter_append]
theorem noNl_none (l : List UInt8) (h : ∀ c ∈ l, c ≠ 10) : noNl l = l := by
 unfold noNl
 rw [List.filter_eq_self]
 intro c hc
 simpa using h c hc
theorem idx_count (l : List UInt8) (h : 1 ≤ l.count 10) : ∃ j : Nat, Lib.indexByte l 10 = (j : Int) ∧ j < l.length ∧ noNl l = l.take j ++ noNl (l.drop (j + 1)) ∧ l.count 10 = (l.drop (j + 1)).count 10 + 1 := by
 rcases Int.lt_or_le (Lib.indexByte l 10) 0 with h0 | h0
 ·have h1 : Lib.indexByte l 10 = -1 := by have := Lib.indexByte_ge l 10; omega
  have hn := Lib.indexByte_none h1
  have : (10 : UInt8) ∉ l := fun hm => by
   obtain ⟨i, hi, he⟩ := List.mem_iff_getElem.1 hm
   exact hn i (by rw [List.getElem?_eq_getElem hi, he])
  rw [List.count_eq_zero_of_not_mem this] at h
  omega
 ·obtain ⟨j, hj⟩ := Int.eq_ofNat_of_zero_le h0
  obtain ⟨hx, hy⟩ := Lib.indexByte_some hj
  have hlt : j < l.length := (List.getElem?_eq_some_iff.mp hx).1
  have he : l[j] = 10 := (List.getElem?_eq_some_iff.mp hx).2
  have hd : l = l.take j ++ (10 :: l.drop (j + 1)) := by
   conv => lhs; rw [← List.take_append_drop j l, List.drop_eq_getElem_cons hlt, he]
  have ht : ∀ c ∈ l.take j, c ≠ 10 := fun c hc e => by
   obtain ⟨i, hi, hc2⟩ := List.mem_iff_getElem.1 hc
   rw [List.length_take] at hi
   rw [List.getElem_take] at hc2
   exact hy i (by omega) (by rw [List.getElem?_eq_getElem (by omega), hc2, e])
  refine ⟨j, hj, hlt, ?_, ?_⟩
  ·conv => lhs; rw [hd]
   rw [noNl_app, noNl_none _ ht]
   rfl
  ·conv => lhs; rw [hd]
   rw [List.count_append, List.count_cons_self, List.count_eq_zero_of_not_mem (fun hm => ht _ hm rfl)]
   omega
theorem replace_calls (s : ByteArray) (hs : s.size ≤ 1048576) (w : World) :
 Calls Tryz.prog 99 #[.string s, .string ⟨#[10]⟩, .string ⟨#[]⟩, .int .i64 (-1)] w fun e w' => e = .returned (.string ⟨(noNl s.data.toList).toArray⟩) ∧ Below w.heap.size w w' := by
 have hcl : s.data.toList.count 10 ≤ s.size := by rw [Lib.size_eq]; exact List.count_le_length
 obtain ⟨cn, hcn⟩ : ∃ cn : Nat, s.data.toList.count 10 = cn := ⟨_, rfl⟩
 have hC : Hid (Lib.countByte s.data.toList 10 = cn) := Lib.hid hcn
 rw [hcn] at hcl
 by_cases h0 : cn = 0
 ·have hz : Hid (s = ⟨(noNl s.data.toList).toArray⟩) := Lib.hid (by
   rw [noNl_none _ (fun c hc e => by
    subst e
    have := List.count_pos_iff.2 hc
    omega)])
  subst h0
  go_enter Tryz.func99, Tryz.ntmps99
  go_wp2_with fail
  refine (Tryz.strings_Count_one s 10 _).mono ?_
  rintro e w' ⟨rfl, rfl⟩
  rw [hC.out]
  go_wp2_with fail
  go_ret
  exact ⟨ret_str hz.out, Below.refl _ _⟩
 ·have hcz : ((cn : Int) == 0) = false := beq_eq_false_iff_ne.2 (by omega)
  have HCN := Lib.hid hcn
  clear hcn
  go_enter Tryz.func99, Tryz.ntmps99
  go_wp2_with fail
  refine (Tryz.strings_Count_one s 10 _).mono ?_
  rintro e w' ⟨rfl, hw⟩
  rw [hw, hC.out]
  clear hw
  go_wp2_with fail
  have hg : (s.size : Int) + -(cn : Int) = ((s.size - cn : Nat) : Int) := by omega
  rw [hg]
  clear hg
  refine (Tryz.Builder_Grow_fresh w.heap.size w.heap.size (s.size - cn) _ (Nat.le_refl _) (heap_alloc_new w _) (by simp) (by omega)).mono ?_
  rintro e w1 ⟨rfl, hb0, hb1⟩
  have H1 := Aa.mk (Or.inr hb0 : Lib.IsBuilder 160 5 w.heap.size w.heap.size (Lib.byteCells []) w1)
  have HB1 := Aa.mk (((Below.refl w.heap.size w).alloc (Nat.le_refl _) _).trans hb1)
  clear hb0 hb1
  go_wp2_with fail
  go_loopw [11, 53] (fun v11 v53 wr => ∃ (i start : Nat) (acc : List UInt8), v53 = .int .i64 i ∧ v11 = .int .i64 start ∧ i ≤ cn ∧ start ≤ s.size ∧ acc.length ≤ start ∧ Aa (Lib.IsBuilder 160 5 w.heap.size w.heap.size (Lib.byteCells acc) wr) ∧ Aa (Below w.heap.size w wr) ∧
   Aa (acc ++ noNl (s.data.toList.drop start) = noNl s.data.toList) ∧ Aa ((s.data.toList.drop start).count 10 + i = cn)) (fun v11 v53 _ => cn - (RowKit.intOf v53).toNat)
  case atStart => exact ⟨0, 0, [], rfl, rfl, by omega, by omega, by simp, H1, HB1, ⟨by simp⟩, ⟨by rw [List.drop_zero]; exact HCN.out⟩⟩
  case round =>
   obtain ⟨i, start, acc, rfl, rfl, hi, hst, hacc, HB, HW, HR, HC⟩ := hrel
   have hsz := HW.out.size
   have p0 : (0 : Int) ≤ (start : Int) := by omega
   have p1 : (start : Int) ≤ (s.size : Int) := by omega
   by_cases hlt : i < cn
   ·obtain ⟨j, hj, hjl, hn, hc⟩ := idx_count (s.data.toList.drop start) (by have := HC.out; omega)
    have hjs : start + j < s.size := by rw [List.length_drop, ← Lib.size_eq] at hjl; omega
    have HJ := Lib.hid hj
    have HN := Lib.hid hn
    have HC2 := Lib.hid hc
    clear hj hn hc hjl
    have p2 : (start : Int) ≤ (start : Int) + (j : Int) := by omega
    have p3 : (start : Int) + (j : Int) ≤ (s.size : Int) := by omega
    go_wp2_with fail
    refine (Tryz.strings_Index_one _ 10 _).mono ?_
    rintro e w' ⟨rfl, hw⟩
    rw [hw, Lib.extract_to_end, HJ.out]
    clear hw
    go_wp2_with fail
    have hex : (s.extract start (start + j)).data.toList = (s.data.toList.drop start).take j := by rw [Lib.extract_data, Nat.add_sub_cancel_left]
    have hexl : (s.extract start (start + j)).size = j := by simp; omega
    have HEX := Lib.hid hex
    have hcat : (Lib.byteCells acc ++ Lib.strCells (s.extract start (start + j))).length ≤ 2097152 := by rw [List.length_append, Lib.byteCells_length, Lib.strCells_length, hexl]; omega
    clear hex
    refine (F6 w.heap.size w.heap.size (Lib.byteCells acc) (s.extract start (start + j)) wr HB.out (by rw [Lib.byteCells_length]; omega) hsz).mono ?_
    rintro e w3 ⟨rfl, h3, hb3⟩
    have H3 := Aa.mk h3
    have HB3 := Aa.mk (HW.out.trans hb3)
    clear h3 hb3 hexl
    go_wp2_with fail
    refine (F6 w.heap.size w.heap.size (Lib.byteCells acc ++ Lib.strCells (s.extract start (start + j))) ⟨#[]⟩ w3 (Or.inr H3.out) (by have : (⟨#[]⟩ : ByteArray).size = 0 := rfl; omega) HB3.out.size).mono ?_
    rintro e w4 ⟨rfl, h4, hb4⟩
    have hnew : Lib.byteCells acc ++ Lib.strCells (s.extract start (start + j)) ++ Lib.strCells ⟨#[]⟩ = Lib.byteCells (acc ++ (s.data.toList.drop start).take j) := by
     rw [Lib.strCells_eq, HEX.out, Lib.byteCells_append]
     simp [Lib.strCells]
    rw [hnew] at h4
    have H4 := Aa.mk (Or.inr h4 : Lib.IsBuilder 160 5 w.heap.size w.heap.size _ w4)
    have HB4 := Aa.mk (HB3.out.trans hb4)
    have hdd : (s.data.toList.drop start).drop (j + 1) = s.data.toList.drop (start + j + 1) := by rw [List.drop_drop]; rfl
    have HR5 := Aa.mk (show (acc ++ (s.data.toList.drop start).take j) ++ noNl (s.data.toList.drop (start + j + 1)) = noNl s.data.toList by rw [← hdd, List.append_assoc, ← HN.out]; exact HR.out)
    have HC5 := Aa.mk (show (s.data.toList.drop (start + j + 1)).count 10 + (i + 1) = cn by have := HC.out; have := HC2.out; rw [hdd] at this; omega)
    have hl5 : (acc ++ (s.data.toList.drop start).take j).length ≤ start + j + 1 := by rw [List.length_append, List.length_take]; omega
    clear h4 hb4 hnew hdd
    go_wp2_with fail
    exact ⟨⟨i + 1, start + j + 1, _, by go_num, by go_num, by omega, by omega, hl5, H4, HB4, HR5, HC5⟩, by simp [RowKit.intOf]; omega⟩
   ·obtain rfl : i = cn := by omega
    have hz : (s.data.toList.drop start).count 10 = 0 := by have := HC.out; omega
    have hnn : noNl (s.data.toList.drop start) = s.data.toList.drop start := noNl_none _ (fun c hc e => by
     subst e
     have := List.count_pos_iff.2 hc
     omega)
    have HN := Lib.hid hnn
    clear hz hnn
    go_wp2_with fail
    refine (F6 w.heap.size w.heap.size (Lib.byteCells acc) (s.extract start s.size) wr HB.out (by rw [Lib.byteCells_length]; simp; omega) hsz).mono ?_
    rintro e w3 ⟨rfl, h3, hb3⟩
    rw [Lib.strCells_eq, Lib.extract_to_end, ← Lib.byteCells_append] at h3
    have hfin : acc ++ s.data.toList.drop start = noNl s.data.toList := by rw [← HR.out, HN.out]
    rw [hfin] at h3
    have H3 := Aa.mk (Or.inr h3 : Lib.IsBuilder 160 5 w.heap.size w.heap.size _ w3)
    have HB3 := Aa.mk (HW.out.trans hb3)
    clear h3 hb3 hfin
    go_wp2_with fail
    refine (Tryz.Builder_String_any w.heap.size w.heap.size _ w3 H3.out HB3.out.size).mono ?_
    rintro e w5 ⟨rfl, hb5⟩
    have HB5 := Aa.mk (HB3.out.trans hb5)
    clear hb5
    go_wp2_with fail
    go_ret
    exact ⟨rfl, HB5.out⟩
theorem replaceAll_calls (s : ByteArray) (hs : s.size ≤ 1048576) (w : World) :
 Calls Tryz.prog 65 #[.string s, .string ⟨#[10]⟩, .string ⟨#[]⟩] w fun e w' => e = .returned (.string ⟨(noNl s.data.toList).toArray⟩) ∧ Below w.heap.size w w' := by
 obtain ⟨T, hT⟩ : ∃ T : ByteArray, ⟨(noNl s.data.toList).toArray⟩ = T := ⟨_, rfl⟩
 have HT := Lib.hid hT
 rw [hT]
 clear hT
 go_enter Tryz.func65, Tryz.ntmps65
 go_wp2_with fail
 refine (replace_calls s hs _).mono ?_
 rw [HT.out]
 rintro e w' ⟨rfl, hb⟩
 go_wp2_with fail
 go_ret
 exact ⟨rfl, hb⟩
def Fq (s : ByteArray) : List S174 → Nat → Int
 | [], _ => -1
 | x :: l, k => if (x.f0.toList == s.toList) = true then (k : Int) else Fq s l (k + 1)
def Ea (l : List S174) (s : ByteArray) : Int := Fq s l 0
theorem find1_calls (a : ByteArray) (t s : ByteArray) (b : Nat) (w : World) (hb : b < w.heap.size) (hc : w.cell? ⟨b, 0, none⟩ = some (.string s)) :
 Calls Tryz.prog 168 #[.agg #[.string a, .string t], .pointer (some ⟨b, 0, none⟩)] w fun e w' => e = .returned (.bool (a.toList == s.toList)) ∧ Below w.heap.size w w' := by
 have hne : b ≠ w.heap.size := by omega
 go_enter Tryz.func168, Tryz.ntmps168
 go_wp2
 go_ret
 exact ⟨rfl, (Below.refl _ _).alloc (Nat.le_refl _) _⟩
theorem findFrom_drop (s : ByteArray) (l : List S174) (k : Nat) (h : k < l.length) :
 Fq s (l.drop k) k = if ((Bg l k).f0.toList == s.toList) = true then (k : Int) else Fq s (l.drop (k + 1)) (k + 1) := by
 rw [List.drop_eq_getElem_cons h]
 have : Bg l k = l[k] := by simp [Bg, List.getD_eq_getElem?_getD, h]
 rw [this]
 rfl
theorem indexFunc_calls (A0 : Option Addr) (c0 : Nat) (l : List S174) (s : ByteArray) (b : Nat) (w : World) (hr : Kd.C k174 w A0 l.length l) (hb : b < w.heap.size) (hc : w.cell? ⟨b, 0, none⟩ = some (.string s)) :
 Calls Tryz.prog 167 #[.slice A0 l.length c0, .func (.func 168) #[] #[.pointer (some ⟨b, 0, none⟩)]] w fun e w' => e = .returned (.int .i64 (Ea l s)) ∧ Below w.heap.size w w' := by
 have HR := Aa.mk hr
 have HC := Aa.mk hc
 have hm := Hb hr
 clear hr hc
 have eg : ∀ args w, (callFunc 168 args).run Tryz.prog w = .ok (.enter 168 args) w := enters_of Tryz.func168 (by kernel_rfl) rfl
 go_enter Tryz.func167, Tryz.ntmps167
 go_wp2
 go_loopw [8] (fun v8 wr => ∃ k : Nat, v8 = .int .i64 k ∧ k ≤ l.length ∧ Aa (Fq s (l.drop k) k = Ea l s) ∧ Below w.heap.size w wr) (fun v8 _ => l.length - (intOf v8).toNat)
 case atStart => exact ⟨0, rfl, by omega, ⟨rfl⟩, Below.refl _ _⟩
 case round =>
  obtain ⟨k, rfl, hk, hf, hbw⟩ := hrel
  by_cases hlt : k < l.length
  ·obtain ⟨ad, rfl, f0, f1⟩ := Gb (Kd.Bb HR.out hbw) (k : Int) (by omega) (by omega)
   have hq := Lib.hid (findFrom_drop s l k hlt)
   simp only [Int.toNat_natCast] at f0 f1
   have hcl : Calls Tryz.prog 168 #[.agg #[.string (Bg l k).f0, .string (Bg l k).f1], .pointer (some ⟨b, 0, none⟩)] wr _ := find1_calls (Bg l k).f0 (Bg l k).f1 s b wr (Nat.lt_of_lt_of_le hb hbw.size) ((hbw.cell (p := ⟨b, 0, none⟩) hb).trans HC.out)
   have Hcl := Lib.hid hcl
   clear hcl
   go_wp2_with (first | (go_at_fn 168; refine Hcl.out.mono ?_; rintro e w' ⟨rfl, hb2⟩))
   ·have ht : ((Bg l k).f0.toList == s.toList) = true := by assumption
    go_ret
    exact ⟨Hq (by rw [← hf.out, hq.out, if_pos ht]), bel hbw hb2⟩
   ·have ht : ((Bg l k).f0.toList == s.toList) = false := by assumption
    exact ⟨⟨k + 1, by go_num, by omega, ⟨by rw [← hf.out, hq.out, if_neg (by rw [ht]; decide)]⟩, bel hbw hb2⟩, by simp [intOf]; omega⟩
  ·have hd : l.drop k = [] := List.drop_of_length_le (by omega)
   have hq := Lib.hid hd
   clear hd
   go_wp2
   go_ret
   exact ⟨Hq (by rw [← hf.out, hq.out]; rfl), hbw⟩
theorem find_calls (A0 : Option Addr) (c0 : Nat) (l : List S174) (s : ByteArray) (w : World) (hr : Kd.C k174 w A0 l.length l) :
 Calls Tryz.prog 150 #[.slice A0 l.length c0, .string s] w fun e w' => e = .returned (.int .i64 (Ea l s)) ∧ Below w.heap.size w w' := by
 have HR := Aa.mk hr
 clear hr
 have hbel : ∀ o, Below w.heap.size w (w.alloc o) := fun o => (Below.refl _ _).alloc (Nat.le_refl _) _
 have HB := Lib.hid hbel
 clear hbel
 go_enter Tryz.func150, Tryz.ntmps150
 go_wp2_with (first | (go_at_call 167; refine (indexFunc_calls _ _ _ s w.heap.size _ (Kd.Bb HR.out (HB.out _)) (by simp) (by simp)).mono ?_; rintro e w' ⟨rfl, hb2⟩))
 go_ret
 exact ⟨rfl, bel (HB.out _) hb2⟩
def okAt (l : List S174) (k : Nat) : Bool := Ce (Bg l k).f0 && (Do (Bg l k).f1 256 && Ea l (Bg l k).f0 == (k : Int))
def C5 (l : List S174) : Bool := (List.range l.length).all (okAt l) && decide ((l.length : Int) ≤ 16)
def Ei (l : List S174) : Bool := l.all fun x => decide (x.f1.size ≤ 9223372036854775807)
theorem rd_get (l : List S174) (k : Nat) (h : k < l.length) : Bg l k = l[k] := by simp [Bg, List.getD_eq_getElem?_getD, h]
theorem long_at {l : List S174} (h : Ei l = true) (k : Nat) (hk : k < l.length) : (Bg l k).f1.size ≤ 9223372036854775807 := by
 rw [rd_get l k hk]
 have := List.all_eq_true.1 h l[k] (List.getElem_mem hk)
 simpa using this
theorem all_no (l : List S174) (k : Nat) (hk : k < l.length) (h : okAt l k = false) : C5 l = false := by
 unfold C5
 rw [Bool.and_eq_false_iff]
 left
 rw [List.all_eq_false]
 exact ⟨k, List.mem_range.2 hk, by simp [h]⟩
theorem Es (A0 : Option Addr) (c0 : Nat) (l : List S174) (w : World) (hr : Kd.C k174 w A0 l.length l) (hL : Ei l = true) :
 Calls Tryz.prog 122 #[.slice A0 l.length c0] w fun e w' => e = .returned (.bool (C5 l)) ∧ Below w.heap.size w w' := by
 have HR := Aa.mk hr
 have hm := Hb hr
 have HL := Lib.hid hL
 clear hr hL
 go_enter Tryz.func122, Tryz.ntmps122
 go_wp2
 go_loopw [7] (fun v7 wr => ∃ k : Nat, v7 = .int .i64 k ∧ k ≤ l.length ∧ Aa ((List.range k).all (okAt l) = true) ∧ Below w.heap.size w wr) (fun v7 _ => l.length - (intOf v7).toNat)
 case atStart => exact ⟨0, rfl, by omega, ⟨rfl⟩, Below.refl _ _⟩
 case round =>
  obtain ⟨k, rfl, hk, hf, hbw⟩ := hrel
  by_cases hlt : k < l.length
  ·obtain ⟨ad, rfl, f0, f1⟩ := Gb (Kd.Bb HR.out hbw) (k : Int) (by omega) (by omega)
   have hlong := long_at HL.out k hlt
   have hno := Lib.hid (all_no l k hlt)
   have hokd : okAt l k = (Ce (Bg l k).f0 && (Do (Bg l k).f1 256 && Ea l (Bg l k).f0 == (k : Int))) := rfl
   have Hok := Lib.hid hokd
   clear hokd
   simp only [Int.toNat_natCast] at f0 f1
   obtain ⟨A, hA⟩ : ∃ A, Ce (Bg l k).f0 = A := ⟨_, rfl⟩
   obtain ⟨B, hB⟩ : ∃ B, Do (Bg l k).f1 256 = B := ⟨_, rfl⟩
   rw [hA, hB] at Hok
   go_wp2_with fail
   refine (Gl _ _).mono ?_
   rintro e w1 ⟨rfl, hb1⟩
   obtain ⟨hc1, hf1⟩ := bcell hb1
   rw [hA]
   clear hA
   cases A
   ·go_wp2
    go_ret
    exact ⟨Ee (by rw [hno.out (by rw [Hok.out]; rfl)]), bel (hbw.alloc hbw.size _) hb1⟩
   ·go_wp2_with fail
    refine (H7 _ _ _ hlong).mono ?_
    rintro e w2 ⟨rfl, rfl⟩
    rw [hB]
    clear hB
    cases B
    ·go_wp2
     go_ret
     exact ⟨Ee (by rw [hno.out (by rw [Hok.out]; rfl)]), bel (hbw.alloc hbw.size _) hb1⟩
    ·go_wp2_with fail
     refine (find_calls _ _ _ _ _ (Kd.Bb (Kd.Bb HR.out (hbw.alloc hbw.size _)) hb1)).mono ?_
     rintro e w2 ⟨rfl, hb2⟩
     obtain ⟨F, hF⟩ : ∃ F, Ea l (Bg l k).f0 = F := ⟨_, rfl⟩
     rw [hF] at Hok ⊢
     clear hF
     by_cases he : F = k
     ·subst he
      go_wp2
      exact ⟨⟨k + 1, by go_num, by omega, ⟨by rw [List.range_succ, List.all_append, hf.out]; simp [Hok.out]⟩, bel (bel (hbw.alloc hbw.size _) hb1) hb2⟩, by simp [intOf]; omega⟩
     ·go_wp2
      go_ret
      exact ⟨Ee (by rw [hno.out (by rw [Hok.out]; simp [he])]), bel (bel (hbw.alloc hbw.size _) hb1) hb2⟩
  ·obtain rfl : k = l.length := by omega
   have hs : C5 l = decide ((l.length : Int) ≤ 16) := by unfold C5; rw [hf.out]; simp
   have Hs := Lib.hid hs
   clear hs
   go_wp2
   go_ret
   exact ⟨Ee (by rw [Hs.out]), hbw⟩
theorem findFrom_lt (s : ByteArray) : ∀ (l : List S174) (k : Nat), Fq s l k < k + l.length ∧ (Fq s l k < 0 → Fq s l k = -1) ∧ (0 ≤ Fq s l k → (k : Int) ≤ Fq s l k)
 | [], k => ⟨by simp [Fq]; omega, fun _ => rfl, fun h => by simp [Fq] at h⟩
 | x :: l, k => by
  have ih := findFrom_lt s l (k + 1)
  unfold Fq
  split
  ·exact ⟨by simp; omega, fun h => by omega, fun _ => Int.le_refl _⟩
  ·refine ⟨by simp only [List.length_cons]; omega, ih.2.1, fun h => ?_⟩
   have := ih.2.2 h
   omega
theorem findS_lt (l : List S174) (s : ByteArray) : Ea l s < l.length := by
 have := (findFrom_lt s l 0).1
 unfold Ea
 omega
theorem may_len {l : List S174} (h : C5 l = true) : l.length ≤ 16 := by
 unfold C5 at h
 simp at h
 omega
def Dh (l : List S174) (s : ByteArray) : ByteArray := if 0 ≤ Ea l s ∧ C5 l = true then (Bg l (Ea l s)).f1 else ⟨#[]⟩
def scope_Get.f (l0 : List S174) (a1 : ByteArray) : Option ByteArray := if Ei l0 = true then some (Dh l0 a1) else none
theorem scope_Get_calls (A0 : Option Addr) (c0 : Nat) (l : List S174) (s : ByteArray) (w : World) (hr : Kd.C k174 w A0 l.length l) (hL : Ei l = true) :
 Calls Tryz.prog 124 #[.slice A0 l.length c0, .string s] w fun e w' => e = .returned (.string (Dh l s)) ∧ Below w.heap.size w w' := by
 have HR := Aa.mk hr
 have HL := Lib.hid hL
 have hF := findS_lt l s
 have HD : Hid (Dh l s = if 0 ≤ Ea l s ∧ C5 l = true then (Bg l (Ea l s)).f1 else ⟨#[]⟩) := rfl
 obtain ⟨F, hFd⟩ : ∃ F, Ea l s = F := ⟨_, rfl⟩
 obtain ⟨M, hMd⟩ : ∃ M, C5 l = M := ⟨_, rfl⟩
 rw [hFd] at hF
 rw [hFd, hMd] at HD
 have HF := Lib.hid hFd
 have HM := Lib.hid hMd
 clear hr hL hFd hMd
 go_enter Tryz.func124, Tryz.ntmps124
 go_wp2_with fail
 refine (find_calls _ _ _ _ _ HR.out).mono ?_
 rintro e w1 ⟨rfl, hb1⟩
 rw [HF.out]
 by_cases hf : 0 ≤ F
 ·go_wp2_with fail
  refine (Es _ _ _ _ (Kd.Bb HR.out hb1) HL.out).mono ?_
  rintro e w2 ⟨rfl, hb2⟩
  rw [HM.out]
  replace hb2 := bel hb1 hb2
  clear hb1
  cases M
  ·rw [if_neg (by simp)] at HD
   go_wp2_with fail
   go_ret
   exact ⟨ret_str HD.out.symm, hb2⟩
  ·rw [if_pos ⟨hf, rfl⟩] at HD
   obtain ⟨ad, rfl, f0, f1⟩ := Gb (Kd.Bb HR.out hb2) F hf hF
   go_wp2_with fail
   go_ret
   exact ⟨ret_str HD.out.symm, hb2⟩
 ·rw [if_neg (fun h => hf h.1)] at HD
  go_wp2_with fail
  go_ret
  exact ⟨ret_str HD.out.symm, hb1⟩
theorem scope_Get.calls (A0 : Option Addr) (c0 : Nat) (l0 : List S174) (a1 : ByteArray) (r : ByteArray) (w : World) (hr0 : Kd.C k174 w A0 l0.length l0) (_hc0 : l0.length ≤ c0) (h : scope_Get.f l0 a1 = some r) :
 Calls Tryz.prog 124 #[.slice A0 l0.length c0, .string a1] w fun e w' => e = .returned (.string r) ∧ Below w.heap.size w w' := by
 unfold scope_Get.f at h
 by_cases hL : Ei l0 = true
 ·rw [if_pos hL] at h
  obtain rfl := Option.some.inj h
  exact scope_Get_calls A0 c0 l0 a1 w hr0 hL
 ·rw [if_neg hL] at h
  exact absurd h (by simp)
end Go.Proofs.YtefheailchihaaaGreatDoor.Print
end
section
namespace Go.Proofs.YtefheailchihaaaGreatDoor.Print
open Go.RowKit Go.Lib Go.Shelf Go.Proofs.YtefheailchihaaaGreatDoorW.PrintWords Go.Proofs.YtefheailchihaaaGreatDoorW.PrintLast Go.Proofs.YtefheailchihaaaGreatDoorW.PrintMore
theorem info162 : (Tryz.prog.info? 162).map (fun i => (i.zero, i.size, i.bytes)) = some (some (.agg #[(.bool false), (.string ⟨#[]⟩)]), 2, 24) := by kernel_rfl
def St (B g : Nat) (w : World) (rest : ByteArray) (out : List S162) (bad : Bool) : Prop :=
 ∃ v : Value, w.heap[g]? = some (.cells #[.string rest, v, .bool bad] 184 (0, 0)) ∧ B ≤ g ∧ Kd.R k162 162 w B (fun k => k ≠ g) v out
def Dr (s : ByteArray) : Nat := (s.data.toList.takeWhile fun b => varB b.toNat).length
def Gd (s : ByteArray) : ByteArray := s.extract 0 (Dr s)
def Eu (s : ByteArray) : ByteArray := s.extract (Dr s) s.size
theorem varLen_le (s : ByteArray) : Dr s ≤ s.size := by
 unfold Dr
 rw [Lib.size_eq]
 exact (List.takeWhile_sublist _).length_le
theorem varLen_go (s : ByteArray) (k : Nat) (hk : k ≤ Dr s) : (k < Dr s → ∀ h : k < s.size, varB (s[k].toNat : Int) = true) ∧ (k = Dr s → ∀ h : k < s.size, varB (s[k].toNat : Int) = false) := by
 have key : ∀ (l : List UInt8) (k : Nat), (k < (l.takeWhile fun b => varB b.toNat).length → ∀ b, l[k]? = some b → varB (b.toNat : Int) = true) ∧ (k = (l.takeWhile fun b => varB b.toNat).length → ∀ b, l[k]? = some b → varB (b.toNat : Int) = false) := by
  intro l
  induction l with
  | nil => intro k; exact ⟨fun _ b h => by simp at h, fun _ b h => by simp at h⟩
  | cons c l ih =>
   intro k
   rw [List.takeWhile_cons]
   by_cases hc : varB (c.toNat : Int) = true
   ·rw [if_pos hc]
    cases k with
    | zero => exact ⟨fun _ b h => by simp at h; subst h; exact hc, fun h => by simp at h⟩
    | succ k =>
     have := ih k
     exact ⟨fun h b hb => this.1 (by simpa using h) b (by simpa using hb), fun h b hb => this.2 (by simpa using h) b (by simpa using hb)⟩
   ·rw [if_neg hc]
    refine ⟨fun h => by simp at h, fun h b hb => ?_⟩
    simp at h
    subst h
    simp at hb
    subst hb
    simpa using hc
 have e : ∀ h : k < s.size, s.data.toList[k]? = some s[k] := fun h => by
  rw [List.getElem?_eq_getElem (by simpa using h)]
  rfl
 exact ⟨fun h1 h => (key _ k).1 h1 _ (e h), fun h1 h => (key _ k).2 h1 _ (e h)⟩
theorem Ib {B g : Nat} {w : World} {rest : ByteArray} {out : List S162} {bad : Bool} {v : Value} (h : w.heap[g]? = some (.cells #[.string rest, v, .bool bad] 184 (0, 0))) :
 w.cell? ⟨g, 0, none⟩ = some (.string rest) ∧ w.cell? ⟨g, 1, none⟩ = some v ∧ w.cell? ⟨g, 2, none⟩ = some (.bool bad) ∧ w.frozen? ⟨g, 0, none⟩ = false ∧ w.frozen? ⟨g, 1, none⟩ = false ∧ w.frozen? ⟨g, 2, none⟩ = false :=
 ⟨Ab h 0, Ab h 1, Ab h 2, As h 0, As h 1, As h 2⟩
theorem word_calls (B g : Nat) (rest : ByteArray) (out : List S162) (bad : Bool) (w : World) (h : St B g w rest out bad) (hs : rest.size ≤ 9223372036854775807) :
 Calls Tryz.prog 172 #[.pointer (some ⟨g, 0, none⟩)] w fun e w' => e = .returned (.string (Gd rest)) ∧ St B g w' (Eu rest) out bad ∧ Below B w w' := by
 obtain ⟨v, hb, hB, hR⟩ := h
 have hv := varLen_le rest
 have hgo := Lib.hid (varLen_go rest)
 have hwo : Hid (Gd rest = rest.extract 0 (Dr rest)) := rfl
 have hre : Hid (Eu rest = rest.extract (Dr rest) rest.size) := rfl
 generalize Dr rest = n at *
 have HR := Aa.mk hR
 have HB := Aa.mk hb
 obtain ⟨c0, c1, c2, f0, f1, f2⟩ := Ib (B := B) (out := out) hb
 clear hR hb c1 c2 f1 f2
 go_enter Tryz.func172, Tryz.ntmps172
 go_wp2
 go_loop [3] (fun v3 => ∃ k : Nat, v3 = .int .i64 k ∧ k ≤ n) (fun v3 => n - (intOf v3).toNat)
 case atStart => exact ⟨0, rfl, by omega⟩
 case round =>
  obtain ⟨k, rfl, hk⟩ := hrel
  have hg := hgo.out k hk
  by_cases hlt : k < n
  ·have hkv := hg.1 hlt (by omega)
   have Hkv := Lib.hid hkv
   clear hg hkv
   have hks : k < rest.size := by omega
   go_wp2_with (first | (go_at_call 142; refine (name_Var_calls _ _).mono ?_; rintro e w' ⟨rfl, rfl⟩; rw [Hkv.out]))
   exact ⟨⟨k + 1, by go_num, by omega⟩, by simp [intOf]; omega⟩
  ·obtain rfl : k = n := by omega
   by_cases hks : k < rest.size
   ·have hkv := hg.2 rfl hks
    have Hkv := Lib.hid hkv
    clear hg hkv
    go_wp2_with (first | (go_at_call 142; refine (name_Var_calls _ _).mono ?_; rintro e w' ⟨rfl, rfl⟩; rw [Hkv.out]))
    go_ret
    exact ⟨ret_str hwo.out.symm, ⟨v, by rw [hre.out]; exact Az HB.out 0 _ rfl, hB, Kd.R_far HR.out (fun _ hk => hk) _⟩, (Below.refl _ _).setCell hB _⟩
   ·go_wp2_with fail
    go_ret
    exact ⟨ret_str hwo.out.symm, ⟨v, by rw [hre.out]; exact Az HB.out 0 _ rfl, hB, Kd.R_far HR.out (fun _ hk => hk) _⟩, (Below.refl _ _).setCell hB _⟩
def Df (out : List S162) (s : ByteArray) : List S162 :=
 if 0 < out.length ∧ (Bn out ((out.length - 1 : Nat) : Int)).f0 = false then out.set (out.length - 1) ⟨(Bn out ((out.length - 1 : Nat) : Int)).f0, (Bn out ((out.length - 1 : Nat) : Int)).f1 ++ s⟩
 else out ++ [⟨false, s⟩]
theorem elem162 {w : World} {B g c : Nat} {ok : Nat → Prop} {out : List S162} (h : Kd.R k162 162 w B ok (.slice (some ⟨g, 0, none⟩) out.length c) out) (i : Nat) (hi : i < out.length) :
 w.cell? ⟨g, i * 2, none⟩ = some (.bool (Bn out i).f0) ∧ w.cell? ⟨g, i * 2 + 1, none⟩ = some (.string (Bn out i).f1) ∧ w.frozen? ⟨g, i * 2, none⟩ = false ∧ w.frozen? ⟨g, i * 2 + 1, none⟩ = false ∧
 ∀ t : ByteArray, Kd.R k162 162 (w.setCell ⟨g, i * 2 + 1, none⟩ (.string t)) B ok (.slice (some ⟨g, 0, none⟩) out.length c) (out.set i ⟨(Bn out i).f0, t⟩) := by
 obtain ⟨ce, hcl, hM, hcc, hfr⟩ := Kd.R_elem h z162 ((i : Nat) : Int) (by omega) (by omega)
 obtain rfl := k162_openM hM
 refine ⟨hcc 0 _ rfl, hcc 1 _ rfl, hfr 0, hfr 1, fun t => ?_⟩
 exact (Kd.R_seg h ((i : Nat) : Int) (by omega) (by omega) (seg := [.string t]) (j := 1) hcl hcc (show 2 ≤ 2 from by decide) (x' := (⟨(Bn out i).f0, t⟩ : S162)) (k162_mkM _ _ _ _) (fun _ hk => hk)).1
theorem text_calls (B g : Nat) (rest : ByteArray) (out : List S162) (bad : Bool) (s : ByteArray) (w : World) (h : St B g w rest out bad)
 (hl : out.length < 5864062014805) (hz : 0 < out.length → (Bn out ((out.length - 1 : Nat) : Int)).f1.size + s.size ≤ 9223372036854775807) :
 Calls Tryz.prog 148 #[.pointer (some ⟨g, 0, none⟩), .string s] w fun e w' => e = .returned (.tuple #[]) ∧ St B g w' rest (Df out s) bad ∧ Below B w w' := by
 obtain ⟨v, hb, hB, hR⟩ := h
 have hd : Hid (Df out s = if 0 < out.length ∧ (Bn out ((out.length - 1 : Nat) : Int)).f0 = false then out.set (out.length - 1) ⟨(Bn out ((out.length - 1 : Nat) : Int)).f0, (Bn out ((out.length - 1 : Nat) : Int)).f1 ++ s⟩ else out ++ [⟨false, s⟩]) := rfl
 have HR := Aa.mk hR
 obtain ⟨A, c, hv, hlc, hC⟩ := Kd.Dl hR
 subst hv
 have HB := Aa.mk hb
 obtain ⟨c0, c1, c2, f0, f1, f2⟩ := Ib (B := B) (out := out) hb
 have hBw : B ≤ w.heap.size := by have := Cq hb; omega
 clear hR hb c0 c2 f0 f2 hC
 by_cases h0 : 0 < out.length
 ·obtain ⟨g', cap, hv, gb, gl, cells, hcells⟩ := Kd.Gy HR.out h0
  injection hv with ha _ hc
  subst ha hc
  obtain ⟨hx0, hx1, hf0, hf1, hput⟩ := elem162 HR.out (out.length - 1) (by omega)
  have hne : g' ≠ g := HR.out.1 g' rfl
  have hi0 : (0 : Int) ≤ (out.length : Int) - 1 := by omega
  have hzz := hz h0
  obtain ⟨L, hL⟩ : ∃ L, Bn out ((out.length - 1 : Nat) : Int) = L := ⟨_, rfl⟩
  rw [hL] at hd hx0 hx1 hzz hput
  have HP := Lib.hid hput
  clear hz hL hput hcells
  cases hb0 : L.f0
  ·rw [if_pos ⟨h0, hb0⟩] at hd
   rw [hb0] at hx0
   go_enter Tryz.func148, Tryz.ntmps148
   go_wp2_with fail
   refine bodyPost_ret (v := .tuple #[]) (by simp [results, Tryz.results148, go_sem]) rfl ?_
   exact ⟨rfl, ⟨.slice (some ⟨g', 0, none⟩) out.length c, E9 HB.out (fun e => hne e.symm) _, hB, by rw [hd.out]; exact HP.out _⟩, (Below.refl _ _).setCell gb _⟩
  ·rw [if_neg (fun h => by rw [hb0] at h; exact absurd h.2 (by decide))] at hd
   rw [hb0] at hx0
   clear HP hx1 hf0 hf1
   go_enter Tryz.func148, Tryz.ntmps148
   go_wp2_with (first | ((with_reducible refine Cz (b := .append) (xs := #[.tmp 40, .tmp 43]) rfl ?_); at_builtin; refine Kd.Ep k162 (w0 := w) B rfl (.tmp 40) (.tmp 43) 154 162 (.agg #[(.bool false), (.string ⟨#[]⟩)]) 24 rfl Tryz.underlying154 info162 rfl (by decide) (by omega) (.slice (some ⟨g', 0, none⟩) out.length c) out (⟨false, s⟩ : S162) [.bool false, .string s] (fun k => k ≠ g) (fun _ => False) rfl rfl (k162_mkM _ _ _ (⟨false, s⟩ : S162)) (fun _ hk => hk.elim) (fun k hk => ?aF) HR.out (Below.refl _ _) hBw ?aL ?_; (case aF => have := Cq HB.out; omega); (case aL => omega); intro v5 w5 ho5 hb5 hg hat; clear hat; obtain ⟨A5, c5, e5⟩ := Kd.Bd ho5; subst e5; rw [List.length_append, List.length_singleton] at ho5; have hb6 := blk_grown HB.out hg (fun e => HR.out.1 g e.symm rfl); clear hg; obtain ⟨k0, k1, k2, q0, q1, q2⟩ := Ib (B := B) (out := out) hb6; have HB6 := Aa.mk hb6; clear hb6 k0 k2 q0 q2))
   go_end0
   exact ⟨rfl, ⟨_, Az HB6.out 1 _ rfl, hB, by rw [hd.out]; exact Kd.R_far (p := ⟨g, 1, none⟩) ho5 (fun _ hk => hk) _⟩, hb5.setCell hB _⟩
 ·have hi0 : ¬ (0 : Int) ≤ (out.length : Int) - 1 := by omega
  rw [if_neg (fun h => h0 h.1)] at hd
  clear hz
  go_enter Tryz.func148, Tryz.ntmps148
  go_wp2_with (first | ((with_reducible refine Cz (b := .append) (xs := #[.tmp 40, .tmp 43]) rfl ?_); at_builtin; refine Kd.Ep k162 (w0 := w) B rfl (.tmp 40) (.tmp 43) 154 162 (.agg #[(.bool false), (.string ⟨#[]⟩)]) 24 rfl Tryz.underlying154 info162 rfl (by decide) (by omega) (.slice A out.length c) out (⟨false, s⟩ : S162) [.bool false, .string s] (fun k => k ≠ g) (fun _ => False) rfl rfl (k162_mkM _ _ _ (⟨false, s⟩ : S162)) (fun _ hk => hk.elim) (fun k hk => ?aF) HR.out (Below.refl _ _) hBw ?aL ?_; (case aF => have := Cq HB.out; omega); (case aL => omega); intro v5 w5 ho5 hb5 hg hat; clear hat; obtain ⟨A5, c5, e5⟩ := Kd.Bd ho5; subst e5; rw [List.length_append, List.length_singleton] at ho5; have hb6 := blk_grown HB.out hg (fun e => HR.out.1 g e.symm rfl); clear hg; obtain ⟨k0, k1, k2, q0, q1, q2⟩ := Ib (B := B) (out := out) hb6; have HB6 := Aa.mk hb6; clear hb6 k0 k2 q0 q2))
  go_end0
  exact ⟨rfl, ⟨_, Az HB6.out 1 _ rfl, hB, by rw [hd.out]; exact Kd.R_far (p := ⟨g, 1, none⟩) ho5 (fun _ hk => hk) _⟩, hb5.setCell hB _⟩
def trimP (s e : ByteArray) : ByteArray := ⟨(Lib.trimPrefix s.data.toList e.data.toList).toArray⟩
def hasP (s e : ByteArray) : Bool := Lib.hasPrefix s.data.toList e.data.toList
def D7 (rest : ByteArray) (out : List S162) (e : ByteArray) : ByteArray × List S162 × Bool :=
 if (hasP (Eu rest) e && (decide (1 ≤ (Gd rest).size) && decide ((Gd rest).size ≤ 16))) = true then (trimP (Eu rest) e, out ++ [⟨true, Gd rest⟩], false)
 else (trimP (Eu rest) e, out, true)
theorem cutPrefix_calls (s p : ByteArray) (w : World) : Calls Tryz.prog 173 #[.string s, .string p] w fun e w' => e = .returned (.tuple #[.string (trimP s p), .bool (hasP s p)]) ∧ w = w' :=
 (Tryz.strings_CutPrefix s p w).mono fun _ _ ⟨he, hw⟩ => ⟨he, hw.symm⟩
theorem variable_calls (B g : Nat) (rest : ByteArray) (out : List S162) (e : ByteArray) (w : World) (h : St B g w rest out false) (hs : rest.size ≤ 9223372036854775807) (hl : out.length < 5864062014805) :
 Calls Tryz.prog 166 #[.pointer (some ⟨g, 0, none⟩), .string e] w fun x w' => x = .returned (.tuple #[]) ∧ St B g w' (D7 rest out e).1 (D7 rest out e).2.1 (D7 rest out e).2.2 ∧ Below B w w' := by
 have hd : Hid (D7 rest out e = if (hasP (Eu rest) e && (decide (1 ≤ (Gd rest).size) && decide ((Gd rest).size ≤ 16))) = true then (trimP (Eu rest) e, out ++ [⟨true, Gd rest⟩], false)
  else (trimP (Eu rest) e, out, true)) := rfl
 have hw1 := Aa.mk (word_calls B g rest out false w h hs)
 clear h
 generalize Eu rest = R at *
 generalize Gd rest = W at *
 obtain ⟨T, hT⟩ : ∃ T, trimP R e = T := ⟨_, rfl⟩
 obtain ⟨Q, hQ⟩ : ∃ Q, hasP R e = Q := ⟨_, rfl⟩
 rw [hT, hQ] at hd
 have HT := Lib.hid hT
 have HQ := Lib.hid hQ
 clear hT hQ
 go_enter Tryz.func166, Tryz.ntmps166
 go_wp2_with fail
 refine hw1.out.mono ?_
 rintro x w1 ⟨rfl, ⟨v, hb, hB, hR⟩, hb1⟩
 have HB := Aa.mk hb
 have HR := Aa.mk hR
 obtain ⟨A, c, hv, hlc, hC⟩ := Kd.Dl hR
 subst hv
 obtain ⟨c0, c1, c2, f0, f1, f2⟩ := Ib (B := B) (out := out) hb
 have hBw : B ≤ w1.heap.size := by have := Cq hb; omega
 clear hR hb hC
 go_wp2_with fail
 refine (cutPrefix_calls _ _ _).mono ?_
 rintro x w2 ⟨rfl, rfl⟩
 rw [HT.out, HQ.out]
 have hb2 : Aa ((w1.setCell ⟨g, 0, none⟩ (.string T)).heap[g]? = some (.cells #[.string T, .slice A out.length c, .bool false] 184 (0, 0))) := Aa.mk (Az HB.out 0 (.string T) rfl)
 have hr2 := Aa.mk (Kd.R_far (p := ⟨g, 0, none⟩) HR.out (fun _ hk => hk) (.string T))
 have hbb := Aa.mk (hb1.setCell (p := ⟨g, 0, none⟩) hB (.string T))
 have bad (t : World) (hx : t = (w1.setCell ⟨g, 0, none⟩ (.string T)).setCell ⟨g, 2, none⟩ (.bool true)) (he : D7 rest out e = (T, out, true)) : St B g t (D7 rest out e).1 (D7 rest out e).2.1 (D7 rest out e).2.2 ∧ Below B w t := by
  subst hx
  rw [he]
  exact ⟨⟨_, Az hb2.out 2 (.bool true) rfl, hB, Kd.R_far (p := ⟨g, 2, none⟩) hr2.out (fun _ hk => hk) _⟩, hbb.out.setCell (p := ⟨g, 2, none⟩) hB _⟩
 have BAD := Lib.hid bad
 clear bad
 cases Q
 ·rw [if_neg (by simp)] at hd
  go_wp2_with fail
  refine bodyPost_ret (v := .tuple #[]) (by simp [results, Tryz.results166, go_sem]) rfl ?_
  exact ⟨rfl, BAD.out _ rfl hd.out⟩
 ·by_cases h1 : 1 ≤ W.size
  ·have hn : ¬ W.toList = [] := E2 h1
   by_cases h2 : W.size ≤ 16
   ·rw [if_pos (by simp [h1, h2])] at hd
    clear BAD
    have hn1 : W.toList.isEmpty = false := by simpa using hn
    have hn2 : ((W.size : Int) ≤ 16) := by omega
    have hn3 : ¬ (W.toList.isEmpty = true ∨ (16 : Int) < W.size) := by rw [hn1]; simp; omega
    have HN3 := Lib.hid hn3
    clear hn3 hn2 hn1
    have hsz : Value.slice (some ⟨w1.heap.size, 0, none⟩) 1 1 = .slice (some ⟨(w1.setCell ⟨g, 0, none⟩ (.string T)).heap.size, 0, none⟩) 1 1 := by simp
    have HSZ := Lib.hid hsz
    clear hsz
    have hBs : B ≤ (w1.setCell ⟨g, 0, none⟩ (.string T)).heap.size := by have := Cq hb2.out; omega
    go_upto_region 5 with (fail)
    go_wp2_with (first | ((with_reducible refine Cz (b := .append) (xs := #[.tmp 40, .tmp 43]) rfl ?_); at_builtin; refine Kd.Ep k162 (w0 := w) B rfl (.tmp 40) (.tmp 43) 154 162 (.agg #[(.bool false), (.string ⟨#[]⟩)]) 24 rfl Tryz.underlying154 info162 rfl (by decide) (by omega) (.slice A out.length c) out (⟨true, W⟩ : S162) [.bool true, .string W] (fun k => k ≠ g) (fun _ => False) rfl (by first | rfl | exact HSZ.out) (k162_mkM _ _ _ (⟨true, W⟩ : S162)) (fun _ hk => hk.elim) (fun k hk => ?aF) hr2.out hbb.out hBs ?aL ?_; (case aF => have := Cq hb2.out; omega); (case aL => omega); intro v5 w5 ho5 hb5 hg hat; clear hat; obtain ⟨A5, c5, e5⟩ := Kd.Bd ho5; subst e5; rw [List.length_append, List.length_singleton] at ho5; have hb6 := blk_grown hb2.out hg (fun e => hr2.out.1 g e.symm rfl); clear hg; obtain ⟨k0, k1, k2, q0, q1, q2⟩ := Ib (B := B) (out := out) hb6; have HB6 := Aa.mk hb6; clear hb6 k0 k2 q0 q2))
    go_end0
    exact ⟨rfl, by rw [hd.out]; exact ⟨_, Az HB6.out 1 _ rfl, hB, Kd.R_far (p := ⟨g, 1, none⟩) ho5 (fun _ hk => hk) _⟩, hb5.setCell hB _⟩
   ·rw [if_neg (by simp [h1, h2])] at hd
    go_wp2_with fail
    refine bodyPost_ret (v := .tuple #[]) (by simp [results, Tryz.results166, go_sem]) rfl ?_
    exact ⟨rfl, BAD.out _ rfl hd.out⟩
  ·have hn : W.toList = [] := Fg h1
   rw [if_neg (by simp [h1])] at hd
   go_wp2_with fail
   refine bodyPost_ret (v := .tuple #[]) (by simp [results, Tryz.results166, go_sem]) rfl ?_
   exact ⟨rfl, BAD.out _ rfl hd.out⟩
end Go.Proofs.YtefheailchihaaaGreatDoor.Print
namespace Go.Proofs.YtefheailchihaaaGreatDoor.Print
open Go.RowKit Go.Lib Go.Shelf Go.Proofs.YtefheailchihaaaGreatDoorW.PrintWords Go.Proofs.YtefheailchihaaaGreatDoorW.PrintLast Go.Proofs.YtefheailchihaaaGreatDoorW.PrintMore
def sgn (c : UInt8) : Bool := decide (0 ≤ Lib.indexByte (⟨#[36, 32, 58]⟩ : ByteArray).data.toList c)
def Dp (rest : ByteArray) (out : List S162) : ByteArray × List S162 × Bool :=
 if h : 1 ≤ rest.size then
  if sgn rest[0] = true then (rest.extract 1 rest.size, Df out (rest.extract 0 1), false)
  else if hasP rest ⟨#[123]⟩ = true then D7 (rest.extract 1 rest.size) out ⟨#[125]⟩ else D7 rest out ⟨#[]⟩
 else D7 rest out ⟨#[]⟩
theorem contains_calls (rest : ByteArray) (h : 1 ≤ rest.size) (w : World) : Calls Tryz.prog 164 #[.string ⟨#[36, 32, 58]⟩, .string (rest.extract 0 1)] w fun e w' => e = .returned (.bool (sgn rest[0])) ∧ w = w' := by
 have e : rest.extract 0 1 = ⟨#[rest[0]]⟩ := by
  apply ByteArray.ext
  apply Array.ext
  ·simp; omega
  ·intro i h1 h2
   simp at h2
   subst h2
   simp
   rfl
 rw [e]
 exact (Tryz.strings_Contains_one _ _ w).mono fun _ _ ⟨he, hw⟩ => ⟨he, hw.symm⟩
theorem hasPrefix_calls (s p : ByteArray) (w : World) : Calls Tryz.prog 165 #[.string s, .string p] w fun e w' => e = .returned (.bool (hasP s p)) ∧ w = w' :=
 (Tryz.strings_HasPrefix s p w).mono fun _ _ ⟨he, hw⟩ => ⟨he, hw.symm⟩
theorem sign_calls (B g : Nat) (rest : ByteArray) (out : List S162) (w : World) (h : St B g w rest out false) (hs : rest.size ≤ 9223372036854775807)
 (hl : out.length < 5864062014805) (hz : 0 < out.length → (Bn out ((out.length - 1 : Nat) : Int)).f1.size < 9223372036854775807) :
 Calls Tryz.prog 149 #[.pointer (some ⟨g, 0, none⟩)] w fun x w' => x = .returned (.tuple #[]) ∧ St B g w' (Dp rest out).1 (Dp rest out).2.1 (Dp rest out).2.2 ∧ Below B w w' := by
 have hS := Aa.mk h
 obtain ⟨v, hb, hB, hR⟩ := h
 have HB := Aa.mk hb
 have HR := Aa.mk hR
 obtain ⟨c0, c1, c2, f0, f1, f2⟩ := Ib (B := B) (out := out) hb
 clear hR hb
 have tl : Hid (∀ e, St B g w rest out false → Calls Tryz.prog 166 #[.pointer (some ⟨g, 0, none⟩), .string e] w fun x w' => x = .returned (.tuple #[]) ∧ St B g w' (D7 rest out e).1 (D7 rest out e).2.1 (D7 rest out e).2.2 ∧ Below B w w') :=
  Lib.hid fun e hh => variable_calls B g rest out e w hh hs hl
 by_cases h1 : 1 ≤ rest.size
 ·have hie : rest.toList.isEmpty = false := by simpa using E2 h1
  have hn : ¬ rest.toList = [] := E2 h1
  have HIE := Lib.hid hie
  clear hie
  have hi : ((1 : Int) ≤ rest.size) := by omega
  by_cases hsg : sgn rest[0] = true
  ·have hd : Hid (Dp rest out = (rest.extract 1 rest.size, Df out (rest.extract 0 1), false)) := by
    unfold Dp
    rw [dif_pos h1, if_pos hsg]
    exact Lib.hid rfl
   have hx : rest.size - 1 + 1 = rest.size := by omega
   have HSG := Lib.hid hsg
   have HZ : Hid (0 < out.length → (Bn out ((out.length - 1 : Nat) : Int)).f1.size + (rest.extract 0 1).size ≤ 9223372036854775807) := Lib.hid fun h0 => by
    have := hz h0
    simp
    omega
   clear hsg hz
   go_enter Tryz.func149, Tryz.ntmps149
   go_wp2_with fail
   refine (contains_calls rest h1 _).mono ?_
   rintro x w' ⟨rfl, rfl⟩
   rw [HSG.out, HIE.out]
   go_wp2_with fail
   refine (text_calls B g rest out false _ _ hS.out hl HZ.out).mono ?_
   rintro x w' ⟨rfl, ⟨v', hb', -, hR'⟩, hbel⟩
   have HB' := Aa.mk hb'
   have HR' := Aa.mk hR'
   obtain ⟨c0', c1', c2', f0', f1', f2'⟩ := Ib (B := B) (out := out) hb'
   clear hb' hR' c0 c1 c2 f0 f1 f2 c1' c2' f1' f2'
   go_wp2_with fail
   go_end0
   rw [hd.out]
   exact ⟨rfl, ⟨_, Az HB'.out 0 _ rfl, hB, Kd.R_far (p := ⟨g, 0, none⟩) HR'.out (fun _ hk => hk) _⟩, hbel.setCell hB _⟩
  ·rw [Bool.not_eq_true] at hsg
   have HSG := Lib.hid hsg
   by_cases hh : hasP rest ⟨#[123]⟩ = true
   ·have hd : Hid (Dp rest out = D7 (rest.extract 1 rest.size) out ⟨#[125]⟩) := by
     unfold Dp
     rw [dif_pos h1, if_neg (by rw [hsg]; decide), if_pos hh]
     exact Lib.hid rfl
    have HH := Lib.hid hh
    have V := Lib.hid (variable_calls B g (rest.extract 1 rest.size) out ⟨#[125]⟩ (w.setCell ⟨g, 0, none⟩ (.string (rest.extract 1 rest.size))) ⟨v, Az HB.out 0 _ rfl, hB, Kd.R_far (p := ⟨g, 0, none⟩) HR.out (fun _ hk => hk) _⟩ (by simp; omega) hl)
    clear hsg hh hz
    go_enter Tryz.func149, Tryz.ntmps149
    go_wp2_with fail
    refine (contains_calls rest h1 _).mono ?_
    rintro x w' ⟨rfl, rfl⟩
    rw [HSG.out, HIE.out]
    go_wp2_with fail
    refine (hasPrefix_calls rest _ _).mono ?_
    rintro x w' ⟨rfl, rfl⟩
    rw [HH.out]
    go_wp2_with fail
    refine V.out.mono ?_
    rintro x w' ⟨rfl, hst, hbel⟩
    have HST := Aa.mk hst
    clear hst
    go_wp2_with fail
    go_end0
    rw [hd.out]
    exact ⟨rfl, HST.out, ((Below.refl _ _).setCell (p := ⟨g, 0, none⟩) hB _).trans hbel⟩
   ·rw [Bool.not_eq_true] at hh
    have hd : Hid (Dp rest out = D7 rest out ⟨#[]⟩) := by
     unfold Dp
     rw [dif_pos h1, if_neg (by rw [hsg]; decide), if_neg (by rw [hh]; decide)]
     exact Lib.hid rfl
    have HH := Lib.hid hh
    clear hsg hh hz
    go_enter Tryz.func149, Tryz.ntmps149
    go_wp2_with fail
    refine (contains_calls rest h1 _).mono ?_
    rintro x w' ⟨rfl, rfl⟩
    rw [HSG.out, HIE.out]
    go_wp2_with fail
    refine (hasPrefix_calls rest _ _).mono ?_
    rintro x w' ⟨rfl, rfl⟩
    rw [HH.out]
    go_wp2_with fail
    refine (tl.out _ hS.out).mono ?_
    rintro x w' ⟨rfl, hst, hbel⟩
    have HST := Aa.mk hst
    clear hst
    go_wp2_with fail
    go_end0
    rw [hd.out]
    exact ⟨rfl, HST.out, hbel⟩
 ·have hn : rest.toList = [] := Fg h1
  have hr : rest = ⟨#[]⟩ := by
   have e : rest.data.size = 0 := by
    have : rest.size = rest.data.size := rfl
    omega
   apply ByteArray.ext
   exact Array.eq_empty_of_size_eq_zero e
  have hh : hasP rest ⟨#[123]⟩ = false := by rw [hr]; decide
  have hd : Hid (Dp rest out = D7 rest out ⟨#[]⟩) := by
   unfold Dp
   rw [dif_neg h1]
   exact Lib.hid rfl
  have HH := Lib.hid hh
  clear hh hz hr
  go_enter Tryz.func149, Tryz.ntmps149
  go_wp2_with fail
  refine (hasPrefix_calls rest _ _).mono ?_
  rintro x w' ⟨rfl, rfl⟩
  rw [HH.out]
  go_wp2_with fail
  refine (tl.out _ hS.out).mono ?_
  rintro x w' ⟨rfl, hst, hbel⟩
  have HST := Aa.mk hst
  clear hst
  go_wp2_with fail
  go_end0
  rw [hd.out]
  exact ⟨rfl, HST.out, hbel⟩
end Go.Proofs.YtefheailchihaaaGreatDoor.Print
end
section
namespace Go.Proofs.YtefheailchihaaaGreatDoor.Print
open Go.RowKit Go.Proofs.YtefheailchihaaaGreatDoorW.PrintWords Go.Proofs.YtefheailchihaaaGreatDoorW.PrintLast
def smallB (c : Int) : Bool := (decide (97 ≤ c) && decide (c ≤ 122)) || (decide (48 ≤ c) && decide (c ≤ 57))
theorem small_eq (c : Int) : C9.f c = some (smallB c) := by
 unfold C9.f smallB
 repeat' split
 all_goals (congr 1; rw [eq_comm, Bool.eq_iff_iff]; simp; try omega)
theorem Hw {i : Int} {n : Nat} (h0 : 0 ≤ i) (h : i < (n : Int)) (hn : n ≤ 140737488355328) : wrap64 (i + 1) = i + 1 := by
 unfold wrap64
 omega
theorem bt_nat (s : ByteArray) (i : Nat) (h : i < s.size) : bt s (i : Int) = (s[i].toNat : Int) := by
 unfold bt
 rw [dif_pos (by simpa using h)]
 rfl
theorem nameMay_loop (s : ByteArray) (hn : s.size ≤ 140737488355328) (d : Nat) : ∀ (k i : Nat), i + d = s.size → d < k →
 Ag.l0 k s (i : Int) = some (((s.data.toList.drop i).all fun b => oneB b.toNat) && (decide (1 ≤ s.size) && decide (s.size ≤ 16))) := by
 induction d with
 | zero =>
  intro k i hi hk
  obtain ⟨k, rfl⟩ : ∃ m, k = m + 1 := ⟨k - 1, by omega⟩
  simp only [Ag.l0]
  rw [if_neg (by omega), drop_end s i (by omega)]
  by_cases h : 1 ≤ s.size
  ·rw [if_pos (by omega)]; congr 1; rw [Bool.eq_iff_iff]; simp; omega
  ·rw [if_neg (by omega)]; simp [h]
 | succ d ih =>
  intro k i hi hk
  obtain ⟨k, rfl⟩ : ∃ m, k = m + 1 := ⟨k - 1, by omega⟩
  have hlt : i < s.size := by omega
  have hih := ih k (i + 1) (by omega) (by omega)
  simp only [Ag.l0]
  rw [if_pos (by omega), if_pos (by omega), small_eq, bt_nat s i hlt, E5 s i hlt, Hw (n := s.size) (by omega) (by omega) hn]
  simp only [Option.bind_some, List.all_cons]
  have hc : ((i : Int) + 1) = ((i + 1 : Nat) : Int) := by omega
  rw [hc, hih]
  have hb : (s[i].toNat : Int) < 256 := by have := s[i].toNat_lt; omega
  generalize (s[i].toNat : Int) = b at *
  by_cases h1 : smallB b = true
  ·have : oneB b = true := by unfold oneB varB; unfold smallB at h1; simp at h1 ⊢; omega
   rw [if_pos h1, this]; simp
  ·rw [if_neg h1]
   repeat' split
   all_goals first
    | (have : oneB b = true := by unfold oneB varB; simp; omega
       rw [this]; simp; done)
    | (have : oneB b = false := by unfold oneB varB; unfold smallB at h1; simp at h1 ⊢; omega
       rw [this]; simp; done)
theorem Hu (s : ByteArray) (hn : s.size ≤ 140737488355328) (k : Nat) (hk : s.size < k) : Ag.f k s = some (Ce s) := by
 unfold Ag.f
 have := nameMay_loop s hn s.size k 0 (by omega) hk
 rw [show (0 : Int) = ((0 : Nat) : Int) from rfl, this, List.drop_zero]
 unfold Ce
 congr 1
 rw [Bool.and_comm, Bool.and_assoc]
theorem plain_loop (s : ByteArray) (a b : Int) (hn : s.size ≤ 140737488355328) (d : Nat) : ∀ (k i : Nat), i + d = s.size → d < k →
 An.l0 k s a b (i : Int) = some (Dn (s.data.toList.drop i) && (decide (a ≤ s.size) && decide ((s.size : Int) ≤ b))) := by
 induction d with
 | zero =>
  intro k i hi hk
  obtain ⟨k, rfl⟩ : ∃ m, k = m + 1 := ⟨k - 1, by omega⟩
  simp only [An.l0]
  rw [if_neg (by omega), drop_end s i (by omega)]
  by_cases h : a ≤ s.size
  ·rw [if_pos (by omega)]; simp [h, Dn]
  ·rw [if_neg (by omega)]; simp [h]
 | succ d ih =>
  intro k i hi hk
  obtain ⟨k, rfl⟩ : ∃ m, k = m + 1 := ⟨k - 1, by omega⟩
  have hlt : i < s.size := by omega
  have hih := ih k (i + 1) (by omega) (by omega)
  simp only [An.l0]
  rw [if_pos (by omega), if_pos (by omega), bt_nat s i hlt, E5 s i hlt, Hw (n := s.size) (by omega) (by omega) hn]
  have hc : ((i : Int) + 1) = ((i + 1 : Nat) : Int) := by omega
  rw [hc, hih]
  have hp : Dn (s[i] :: s.data.toList.drop (i + 1)) = (decide (32 ≤ (s[i].toNat : Int)) && decide ((s[i].toNat : Int) ≤ 126) && Dn (s.data.toList.drop (i + 1))) := rfl
  rw [hp]
  generalize (s[i].toNat : Int) = c at *
  by_cases h1 : c < 32
  ·rw [if_pos h1]; simp [show ¬ 32 ≤ c by omega]
  ·rw [if_neg h1]
   by_cases h2 : c > 126
   ·rw [if_pos h2]; simp [show ¬ c ≤ 126 by omega]
   ·rw [if_neg h2]; simp [show 32 ≤ c by omega, show c ≤ 126 by omega]
theorem refPlain (s : ByteArray) (b : Int) (hn : s.size ≤ 140737488355328) (k : Nat) (hk : s.size < k) : An.f k s 0 b = some (Do s b) := by
 unfold An.f
 have h : An.l0 k s 0 b 0 = _ := plain_loop s 0 b hn s.size k 0 (by omega) hk
 rw [h, List.drop_zero]
 simp [Do]
def textsOk (D : Nat) (l : List S174) : Prop := ∀ k, k < l.length → (Bg l k).f0.size ≤ D ∧ (Bg l k).f1.size ≤ D
theorem find_skip (s : ByteArray) (l : List S174) (d : Nat) : ∀ k, (k + d ≤ l.length) → (∀ j, k ≤ j → j < k + d → (Bg l j).f0.toList ≠ s.toList) → Fq s (l.drop k) k = Fq s (l.drop (k + d)) (k + d) := by
 induction d with
 | zero => intro k _ _; rfl
 | succ d ih =>
  intro k hk h
  rw [findFrom_drop s l k (by omega), if_neg (by simpa using h k (by omega) (by omega)), ih (k + 1) (by omega) (fun j h1 h2 => h j (by omega) (by omega))]
  rw [show k + 1 + d = k + (d + 1) by omega]
theorem find_first (s : ByteArray) (l : List S174) (i : Nat) (hi : i < l.length) (h : ∀ j, j < i → (Bg l j).f0.toList ≠ s.toList) (he : (Bg l i).f0.toList = s.toList) : Ea l s = i := by
 have := find_skip s l i 0 (by omega) (fun j _ h2 => h j (by omega))
 unfold Ea
 rw [List.drop_zero, Nat.zero_add] at this
 rw [this, findFrom_drop s l i hi, if_pos (by simpa using he)]
theorem find_none (s : ByteArray) (l : List S174) (h : ∀ j, j < l.length → (Bg l j).f0.toList ≠ s.toList) : Ea l s = -1 := by
 have := find_skip s l l.length 0 (by omega) (fun j _ h2 => h j (by omega))
 unfold Ea
 rw [List.drop_zero, Nat.zero_add] at this
 rw [this, List.drop_of_length_le (Nat.le_refl _)]
 rfl
theorem first_of (P : Nat → Prop) (n : Nat) (h : ∃ j, j < n ∧ P j) : ∃ i, i < n ∧ P i ∧ ∀ j, j < i → ¬ P j := by
 induction n with
 | zero => obtain ⟨j, hj, _⟩ := h; omega
 | succ n ih =>
  by_cases hx : ∃ j, j < n ∧ P j
  ·obtain ⟨i, h1, h2, h3⟩ := ih hx
   exact ⟨i, by omega, h2, h3⟩
  ·obtain ⟨j, hj, hp⟩ := h
   have : j = n := by
    rcases Nat.lt_or_ge j n with h1 | h1
    ·exact absurd ⟨j, h1, hp⟩ hx
    ·omega
   subst this
   exact ⟨j, by omega, hp, fun i hi hpi => hx ⟨i, hi, hpi⟩⟩
theorem find_self (l : List S174) (i : Nat) (hi : i < l.length) : Ea l (Bg l i).f0 = i ↔ ∀ j, j < i → (Bg l j).f0.toList ≠ (Bg l i).f0.toList := by
 constructor
 ·intro h j hj he
  obtain ⟨m, h1, h2, h3⟩ := first_of (fun j => (Bg l j).f0.toList = (Bg l i).f0.toList) i ⟨j, hj, he⟩
  have := find_first (Bg l i).f0 l m (by omega) h3 h2
  omega
 ·intro h
  exact find_first _ l i hi h rfl
theorem inner_all (l : List S174) (i : Nat) (hi : i < l.length) (hn : l.length ≤ 140737488355328) (d : Nat) : ∀ (k j : Nat), j + d = i → (∀ m, j ≤ m → m < i → (Bg l m).f0.toList ≠ (Bg l i).f0.toList) →
 Af.l1 (k + d + 1) l i j = Af.l0 k l ((i + 1 : Nat) : Int) := by
 induction d with
 | zero =>
  intro k j hj h
  simp only [Af.l1]
  rw [if_neg (by omega), Hw (n := l.length) (by omega) (by omega) hn]
  rfl
 | succ d ih =>
  intro k j hj h
  rw [show k + (d + 1) + 1 = (k + d + 1) + 1 by omega]
  simp only [Af.l1]
  rw [if_pos (by omega), if_pos (by omega), if_pos (by omega), if_pos (by omega), if_pos (by omega), if_neg (h j (by omega) (by omega)), Hw (n := l.length) (by omega) (by omega) hn]
  exact ih k (j + 1) (by omega) (fun m h1 h2 => h m (by omega) h2)
theorem inner_hit (l : List S174) (i : Nat) (hi : i < l.length) (hn : l.length ≤ 140737488355328) (d : Nat) : ∀ (k j : Nat), j + d = i → (∃ m, j ≤ m ∧ m < i ∧ (Bg l m).f0.toList = (Bg l i).f0.toList) → d < k →
 Af.l1 k l i j = some false := by
 induction d with
 | zero => intro k j hj ⟨m, h1, h2, _⟩; omega
 | succ d ih =>
  intro k j hj h hk
  obtain ⟨k, rfl⟩ : ∃ m, k = m + 1 := ⟨k - 1, by omega⟩
  simp only [Af.l1]
  rw [if_pos (by omega), if_pos (by omega), if_pos (by omega), if_pos (by omega), if_pos (by omega)]
  by_cases he : (Bg l j).f0.toList = (Bg l i).f0.toList
  ·rw [if_pos he]
  ·rw [if_neg he, Hw (n := l.length) (by omega) (by omega) hn]
   obtain ⟨m, h1, h2, h3⟩ := h
   refine ih k (j + 1) (by omega) ⟨m, ?_, h2, h3⟩ (by omega)
   rcases Nat.lt_or_ge j m with h4 | h4
   ·omega
   ·obtain rfl : j = m := by omega
    exact absurd h3 he
theorem scope_loop (D : Nat) (hD : D ≤ 140737488355328) (l : List S174) (hn : l.length ≤ 140737488355328) (ht : textsOk D l) (d : Nat) : ∀ (k i : Nat), i + d = l.length → d * (l.length + 3) + D + 2 ≤ k →
 Af.l0 k l (i : Int) = some (((List.range' i d).all (okAt l)) && decide ((l.length : Int) ≤ 16)) := by
 induction d with
 | zero =>
  intro k i hi hk
  obtain ⟨k, rfl⟩ : ∃ m, k = m + 1 := ⟨k - 1, by omega⟩
  simp only [Af.l0]
  rw [if_neg (by omega)]
  simp
 | succ d ih =>
  intro k i hi hk
  rw [Nat.succ_mul] at hk
  obtain ⟨k, rfl⟩ : ∃ m, k = m + 1 := ⟨k - 1, by omega⟩
  have hlt : i < l.length := by omega
  obtain ⟨h0, h1⟩ := ht i hlt
  simp only [Af.l0]
  rw [if_pos (by omega), if_pos (by omega), Hu _ (by omega) k (by omega), Option.bind_some]
  have hok : okAt l i = (Ce (Bg l i).f0 && (Do (Bg l i).f1 256 && Ea l (Bg l i).f0 == (i : Int))) := rfl
  rw [List.range'_succ, List.all_cons, hok]
  by_cases hN : Ce (Bg l i).f0 = true
  ·rw [if_pos hN, refPlain _ _ (by omega) k (by omega), Option.bind_some, hN]
   obtain ⟨k, rfl⟩ : ∃ m, k = m + 1 := ⟨k - 1, by omega⟩
   simp only [Af.j1]
   cases hP : Do (Bg l i).f1 256
   ·simp
   ·rw [if_neg (by simp)]
    by_cases hF : ∀ j, j < i → (Bg l j).f0.toList ≠ (Bg l i).f0.toList
    ·obtain ⟨z, hz⟩ : ∃ z, k = z + i + 1 := ⟨k - i - 1, by omega⟩
     rw [hz, show (0 : Int) = ((0 : Nat) : Int) from rfl, inner_all l i hlt hn i z 0 (by omega) (fun m _ h => hF m h), ih z (i + 1) (by omega) (by omega)]
     rw [(find_self l i hlt).2 hF]
     simp
    ·have hF' : ∃ m, 0 ≤ m ∧ m < i ∧ (Bg l m).f0.toList = (Bg l i).f0.toList := by
      apply Classical.byContradiction
      intro hx
      exact hF fun j hj he => hx ⟨j, by omega, hj, he⟩
     rw [show (0 : Int) = ((0 : Nat) : Int) from rfl, inner_hit l i hlt hn i k 0 (by omega) hF' (by omega)]
     have : (Ea l (Bg l i).f0 == (i : Int)) = false := by
      rw [beq_eq_false_iff_ne]
      exact fun h => hF ((find_self l i hlt).1 h)
     rw [this]
     simp
  ·rw [if_neg hN]
   obtain ⟨k, rfl⟩ : ∃ m, k = m + 1 := ⟨k - 1, by omega⟩
   simp only [Af.j1]
   simp [hN]
def Ij (D : Nat) (l : List S174) : Nat := l.length * (l.length + 3) + D + 2
theorem refScopeMay (D : Nat) (hD : D ≤ 140737488355328) (l : List S174) (hn : l.length ≤ 140737488355328) (ht : textsOk D l) (k : Nat) (hk : Ij D l ≤ k) : Af.f k l = some (C5 l) := by
 unfold Af.f
 rw [show (0 : Int) = ((0 : Nat) : Int) from rfl, scope_loop D hD l hn ht l.length k 0 (by omega) hk]
 rw [← List.range_eq_range']
 rfl
theorem get_loop (D : Nat) (hD : D ≤ 140737488355328) (l : List S174) (hn : l.length ≤ 140737488355328) (ht : textsOk D l) (s : ByteArray) (hM : C5 l = true) (d : Nat) : ∀ (k i : Nat), i + d = l.length → 2 * d + Ij D l + 2 ≤ k → (∀ j, j < i → (Bg l j).f0.toList ≠ s.toList) →
 Aq.l0 k l s (i : Int) = some (Dh l s) := by
 have hl := may_len hM
 induction d with
 | zero =>
  intro k i hi hk h
  obtain ⟨k, rfl⟩ : ∃ m, k = m + 2 := ⟨k - 2, by omega⟩
  have hf := find_none s l (fun j hj => h j (by omega))
  simp only [Aq.l0, Aq.j1]
  rw [if_neg (by omega), if_neg (by simp)]
  unfold Dh
  rw [if_neg (fun h => by omega)]
 | succ d ih =>
  intro k i hi hk h
  obtain ⟨k, rfl⟩ : ∃ m, k = m + 2 := ⟨k - 2, by omega⟩
  simp only [Aq.l0]
  rw [if_pos (by omega), refScopeMay D hD l hn ht _ (by omega), Option.bind_some, hM]
  simp only [Aq.j1]
  rw [if_pos trivial, if_pos (by omega), if_pos (by omega)]
  by_cases he : (Bg l i).f0.toList = s.toList
  ·have hf := find_first s l i (by omega) h he
   rw [if_pos he]
   unfold Dh
   rw [if_pos ⟨by omega, hM⟩, hf]
  ·rw [if_neg he, Hw (n := l.length) (by omega) (by omega) hn]
   refine ih k (i + 1) (by omega) (by omega) (fun j hj => ?_)
   rcases Nat.lt_or_ge j i with h1 | h1
   ·exact h j h1
   ·obtain rfl : j = i := by omega
    exact he
theorem refGet (D : Nat) (hD : D ≤ 140737488355328) (l : List S174) (hn : l.length ≤ 140737488355328) (ht : textsOk D l) (s : ByteArray) (k : Nat) (hk : Ij D l + 40 ≤ k) :
 Aq.f k l s = some (Dh l s) := by
 unfold Aq.f
 by_cases hM : C5 l = true
 ·have hl := may_len hM
  exact get_loop D hD l hn ht s hM l.length k 0 (by omega) (by omega) (fun j hj => by omega)
 ·obtain ⟨k, rfl⟩ : ∃ m, k = m + 2 := ⟨k - 2, by omega⟩
  simp only [Aq.l0]
  have hg : Dh l s = ⟨#[]⟩ := by unfold Dh; rw [if_neg (fun h => hM h.2)]
  by_cases h0 : (0 : Int) < l.length
  ·rw [if_pos h0, refScopeMay D hD l hn ht _ (by omega), Option.bind_some]
   simp only [Aq.j1]
   rw [if_neg hM, hg]
  ·rw [if_neg h0]
   simp only [Aq.j1]
   rw [if_neg (by simp), hg]
theorem may_iff (l : List S174) : C5 l = true ↔ (∀ k, k < l.length → Ce (Bg l k).f0 = true ∧ Do (Bg l k).f1 256 = true ∧ ∀ j, j < k → (Bg l j).f0.toList ≠ (Bg l k).f0.toList) ∧ l.length ≤ 16 := by
 unfold C5 okAt
 rw [Bool.and_eq_true, List.all_eq_true]
 constructor
 ·rintro ⟨h, h2⟩
  refine ⟨fun k hk => ?_, by have := of_decide_eq_true h2; omega⟩
  have := h k (List.mem_range.2 hk)
  rw [Bool.and_eq_true, Bool.and_eq_true] at this
  exact ⟨this.1, this.2.1, (find_self l k hk).1 (beq_iff_eq.1 this.2.2)⟩
 ·rintro ⟨h, h2⟩
  refine ⟨fun k hk => ?_, decide_eq_true (by omega)⟩
  have hk' := List.mem_range.1 hk
  obtain ⟨h3, h4, h5⟩ := h k hk'
  rw [h3, h4, (find_self l k hk').2 h5]
  simp
end Go.Proofs.YtefheailchihaaaGreatDoor.Print
end
