/- The contract of name.May: it answers whether a text has 1 to 16 bytes, each of a name; for every text. -/
import Derived.Test.YtbkgcdjbkoeejaaP0
import Derived.Test.YtbkgcdjbkoeejaaShelf
import Derived.Laws.RangeAny
import Derived.Outline
import Derived.Lib.Hide
namespace Go.Proofs.Ytbkgcdjbkoeejaa.Print
open Go.RowKit Go.Lib Go.Shelf Go.Proofs.YtbkgcdjbkoeejaaW.PrintWords Go.Proofs.YtbkgcdjbkoeejaaW.PrintLast Go.Proofs.YtbkgcdjbkoeejaaW.PrintMore

/-- A byte of a variable's name. -/
def varB (r : Int) : Bool := (decide (97 ≤ r) && decide (r ≤ 122)) || ((decide (48 ≤ r) && decide (r ≤ 57)) || r == 95)
/-- A byte of a name. -/
def oneB (r : Int) : Bool := decide (r < 128) && (varB r || (r == 46 || r == 45 || r == 47))
def nameMay (s : ByteArray) : Bool := decide (1 ≤ s.size) && (decide (s.size ≤ 16) && s.data.toList.all fun b => oneB b.toNat)
def name_May.f (a0 : ByteArray) : Option Bool := some (nameMay a0)

theorem ret_bool {x y : Bool} (h : x = y) : Ending.returned (.bool x) = .returned (.bool y) := by rw [h]

theorem name_Var_calls (b : Int) (w : World) :
    Calls Try.prog 54 #[.int .u8 b] w fun e w' => e = .returned (.bool (varB b)) ∧ w = w' := by
  by_cases h1 : 97 ≤ b <;> by_cases h2 : b ≤ 122 <;> by_cases h3 : 48 ≤ b <;> by_cases h4 : b ≤ 57 <;> by_cases h5 : b = 95 <;> first
    | (exfalso; omega)
    | (go_enter Try.func54, Try.ntmps54
       go_wp2
       go_ret
       exact ⟨ret_bool (by unfold varB; rw [Bool.eq_iff_iff]; simp <;> omega), rfl⟩)

theorem indexByte_three (r : Nat) (h : r < 128) : decide (0 ≤ Lib.indexByte [46, 45, 47] r.toUInt8) = ((r : Int) == 46 || (r : Int) == 45 || (r : Int) == 47) := by
  have : ∀ r : Fin 128, decide (0 ≤ Lib.indexByte [46, 45, 47] r.val.toUInt8) = ((r.val : Int) == 46 || (r.val : Int) == 45 || (r.val : Int) == 47) := by decide +kernel
  exact this ⟨r, h⟩

set_option maxRecDepth 100000 in
theorem name_one_calls (r : Nat) (w : World) :
    Calls Try.prog 44 #[.int .i32 r] w fun e w' => e = .returned (.bool (oneB r)) ∧ w = w' := by
  by_cases h1 : r < 128
  · have hb := Lib.hid (indexByte_three r h1)
    have hd : decide ((r : Int) < 128) = true := by simp; omega
    go_enter Try.func44, Try.ntmps44
    go_wp2_with (first | (go_at_call 54; refine (name_Var_calls _ _).mono ?_; rintro e w' ⟨rfl, rfl⟩) | (go_at_call 55; refine (Try.strings_ContainsRune_ascii _ _ _ (by omega) (by omega)).mono ?_; rintro e w' ⟨rfl, rfl⟩))
    · have hv : varB r = true := by assumption
      go_ret
      exact ⟨ret_bool (by simp [oneB, hv, hd]), rfl⟩
    · have hv : ¬ varB r = true := by assumption
      go_ret
      exact ⟨ret_bool (by rw [hb.out]; simp [oneB, hv, hd]), rfl⟩
  · go_enter Try.func44, Try.ntmps44
    go_wp2
    go_ret
    exact ⟨ret_bool (by unfold oneB; simp; omega), rfl⟩

theorem name_odd_calls (r : Nat) (w : World) :
    Calls Try.prog 43 #[.int .i32 r] w fun e w' => e = .returned (.bool (!oneB r)) ∧ w = w' := by
  go_enter Try.func43, Try.ntmps43
  go_wp2_with (first | (go_at_call 44; refine (name_one_calls _ _).mono ?_; rintro e w' ⟨rfl, rfl⟩))
  go_ret
  exact ⟨rfl, rfl⟩

theorem odd_pred (w : World) : PredAt Try.prog 43 #[] encR (fun r => !oneB (r : Int)) w := fun W x _ =>
  (name_odd_calls x W).mono fun _ _ ⟨he, hw⟩ => ⟨he, 0, hw ▸ rfl⟩

/-! the plain law: no rune that is odd, just if no byte is -/
theorem idx_from (s : ByteArray) (f pos : Nat) (h : s.size ≤ pos + f) :
    decide (0 ≤ Lib.idxFuncFrom (fun r => !oneB (r : Int)) true s f pos) = !(s.data.toList.drop pos).all fun b => oneB b.toNat := by
  induction f generalizing pos with
  | zero =>
    have : s.data.toList.drop pos = [] := List.drop_of_length_le (by have := ByteArray.size_data (a := s); simp only [Array.length_toList]; omega)
    simp [Lib.idxFuncFrom, this]
  | succ f ih =>
    by_cases hp : pos < s.size
    · have hl : pos < s.data.toList.length := by simpa using hp
      have hd : s.data.toList.drop pos = s[pos] :: s.data.toList.drop (pos + 1) := by
        rw [List.drop_eq_getElem_cons hl]; rfl
      by_cases ha : (s[pos]'hp).toNat < 128
      · have he := decode_ascii s pos hp ha
        simp only [Lib.idxFuncFrom, hp, if_true, he, hd, List.all_cons]
        cases ho : oneB ((s[pos]'hp).toNat : Int)
        · simp
        · simp only [Bool.not_true, Bool.false_eq_true, if_false, Bool.true_and]
          exact ih (pos + 1) (by omega)
      · have he := decode_high s pos hp (by omega)
        have ho : oneB ((Utf8.decode s pos).1 : Int) = false := by unfold oneB; simp; omega
        have ho2 : oneB ((s[pos]'hp).toNat : Int) = false := by unfold oneB; simp; omega
        simp only [Lib.idxFuncFrom, hp, if_true, hd, List.all_cons, ho, ho2]
        simp
    · have : s.data.toList.drop pos = [] := List.drop_of_length_le (by have := ByteArray.size_data (a := s); simp only [Array.length_toList]; omega)
      simp [Lib.idxFuncFrom, this, hp]

theorem idx_all (s : ByteArray) : decide (0 ≤ Lib.idxFunc (fun r => !oneB (r : Int)) true s) = !s.data.toList.all fun b => oneB b.toNat := by
  unfold Lib.idxFunc
  rw [idx_from s s.size 0 (by omega), List.drop_zero]

theorem size_nil {s : ByteArray} (h : ¬ 1 ≤ s.size) : s.toList = [] := by
  rw [Lib.toList_data]
  exact List.eq_nil_of_length_eq_zero (by rw [← Lib.size_eq]; omega)
theorem size_some {s : ByteArray} (h : 1 ≤ s.size) : ¬ s.toList = [] := by
  rw [Lib.toList_data]
  intro h2
  have := congrArg List.length h2
  rw [← Lib.size_eq, List.length_nil] at this
  omega

set_option maxRecDepth 100000 in
theorem name_May.calls (a0 : ByteArray) (r : Bool) (w : World) (h : name_May.f a0 = some r) :
    Calls Try.prog 33 #[.string a0] w fun e w' => e = .returned (.bool r) ∧ Below w.heap.size w w' := by
  obtain rfl := Option.some.inj h
  clear h
  have hc : ∀ W, Calls Try.prog 45 #[.string a0, .func (.func 43) #[] #[]] W fun e w' => e = .returned (.bool (!a0.data.toList.all fun b => oneB b.toNat)) ∧ Below W.heap.size W w' := fun W => by
    have := Try.strings_ContainsFunc 43 #[] (enters_of Try.func43 (by kernel_rfl) rfl) (fun r => !oneB (r : Int)) a0 W (odd_pred W)
    rwa [idx_all] at this
  have Hc := Lib.hid hc
  clear hc
  obtain ⟨A, hA⟩ : ∃ A, (a0.data.toList.all fun b => oneB b.toNat) = A := ⟨_, rfl⟩
  have hm : nameMay a0 = (decide (1 ≤ a0.size) && (decide (a0.size ≤ 16) && A)) := by rw [← hA]; rfl
  rw [hm]
  rw [hA] at Hc
  clear hA hm
  by_cases h0 : 1 ≤ a0.size
  · have hn : (a0.toList == []) = false := beq_eq_false_iff_ne.2 (size_some h0)
    by_cases h1 : a0.size ≤ 16
    · go_enter Try.func33, Try.ntmps33
      go_wp2_with (first | (go_at_call 45; refine (Hc.out _).mono ?_; rintro e w' ⟨rfl, hb⟩))
      go_ret
      exact ⟨ret_bool (by simp [h0, h1]), hb⟩
    · go_enter Try.func33, Try.ntmps33
      go_wp2
      go_ret
      exact ⟨ret_bool (by simp), Below.refl _ _⟩
  · have hn : a0.toList = [] := size_nil h0
    go_enter Try.func33, Try.ntmps33
    go_wp2
    go_ret
    exact ⟨ret_bool (by simp [h0]), Below.refl _ _⟩

theorem may_calls (a : ByteArray) (w : World) : Calls Try.prog 33 #[.string a] w fun e w' => e = .returned (.bool (nameMay a)) ∧ Below w.heap.size w w' := name_May.calls a _ w rfl

/-! small words -/
theorem ret_i64 {x y : Int} (h : x = y) : Ending.returned (.int .i64 x) = .returned (.int .i64 y) := by rw [h]
theorem ret_str {x y : ByteArray} (h : x = y) : Ending.returned (.string x) = .returned (.string y) := by rw [h]
theorem bel {w w1 w2 : World} (h : Below w.heap.size w w1) (k : Below w1.heap.size w1 w2) : Below w.heap.size w w2 := h.trans (k.mono h.size)
theorem bcell {W w1 : World} (hb : Below W.heap.size W w1) : (∀ b o, b < W.heap.size → w1.cell? ⟨b, o, none⟩ = W.cell? ⟨b, o, none⟩) ∧ (∀ b o, b < W.heap.size → w1.frozen? ⟨b, o, none⟩ = W.frozen? ⟨b, o, none⟩) :=
  ⟨fun b o h => hb.cell (p := ⟨b, o, none⟩) h, fun b o h => hb.frozen (p := ⟨b, o, none⟩) h⟩
theorem C_max {α : Type} {d : Kd α} {w : World} {A : Option Addr} {n : Nat} {xs : List α} (h : Kd.C d w A n xs) : n ≤ 9223372036854775807 := h.2.1
theorem C_addr {α : Type} {d : Kd α} {w : World} {A : Option Addr} {n : Nat} {xs : List α} (h : Kd.C d w A n xs) (h0 : 0 < n) : ∃ ad, A = some ad := by
  obtain ⟨ad, e, _⟩ := h.2.2 h0
  exact ⟨ad, e⟩
theorem drop_cons (s : ByteArray) (i : Nat) (h : i < s.size) : s.data.toList.drop i = s[i] :: s.data.toList.drop (i + 1) := by
  rw [List.drop_eq_getElem_cons (by simpa using h)]
  rfl
theorem drop_end (s : ByteArray) (i : Nat) (h : s.size ≤ i) : s.data.toList.drop i = [] := List.drop_of_length_le (by have := ByteArray.size_data (a := s); simp only [Array.length_toList]; omega)
end Go.Proofs.Ytbkgcdjbkoeejaa.Print
