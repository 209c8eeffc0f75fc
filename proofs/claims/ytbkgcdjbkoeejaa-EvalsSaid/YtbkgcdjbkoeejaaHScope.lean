/- The contracts of scope.find, scope.May, scope.Set and scope.Get: what they answer of any binds whose texts have a length that Go has. -/
import Derived.Test.YtbkgcdjbkoeejaaHPlain
namespace Go.Proofs.Ytbkgcdjbkoeejaa.Print
open Go.RowKit Go.Lib Go.Shelf Go.Proofs.YtbkgcdjbkoeejaaW.PrintWords Go.Proofs.YtbkgcdjbkoeejaaW.PrintLast Go.Proofs.YtbkgcdjbkoeejaaW.PrintMore

/-- The place of a name's first bind, from place k on; -1: there is none. -/
def findFrom (s : ByteArray) : List S34 → Nat → Int
  | [], _ => -1
  | x :: l, k => if (x.f0.toList == s.toList) = true then (k : Int) else findFrom s l (k + 1)
def findS (l : List S34) (s : ByteArray) : Int := findFrom s l 0


set_option maxRecDepth 100000 in
theorem find1_calls (a : ByteArray) (t s : ByteArray) (b : Nat) (w : World) (hb : b < w.heap.size) (hc : w.cell? ⟨b, 0, none⟩ = some (.string s)) :
    Calls Try.prog 47 #[.agg #[.string a, .string t], .pointer (some ⟨b, 0, none⟩)] w fun e w' => e = .returned (.bool (a.toList == s.toList)) ∧ Below w.heap.size w w' := by
  have hne : b ≠ w.heap.size := by omega
  go_enter Try.func47, Try.ntmps47
  go_wp2
  go_ret
  exact ⟨rfl, (Below.refl _ _).alloc (Nat.le_refl _) _⟩

theorem findFrom_drop (s : ByteArray) (l : List S34) (k : Nat) (h : k < l.length) :
    findFrom s (l.drop k) k = if ((rd_T34 l k).f0.toList == s.toList) = true then (k : Int) else findFrom s (l.drop (k + 1)) (k + 1) := by
  rw [List.drop_eq_getElem_cons h]
  have : rd_T34 l k = l[k] := by simp [rd_T34, List.getD_eq_getElem?_getD, h]
  rw [this]
  rfl

set_option maxRecDepth 100000 in
theorem indexFunc_calls (A0 : Option Addr) (c0 : Nat) (l : List S34) (s : ByteArray) (b : Nat) (w : World) (hr : Kd.C k34 w A0 l.length l) (hb : b < w.heap.size) (hc : w.cell? ⟨b, 0, none⟩ = some (.string s)) :
    Calls Try.prog 46 #[.slice A0 l.length c0, .func (.func 47) #[] #[.pointer (some ⟨b, 0, none⟩)]] w fun e w' => e = .returned (.int .i64 (findS l s)) ∧ Below w.heap.size w w' := by
  have HR := Aside0.mk hr
  have HC := Aside0.mk hc
  have hm := C_max hr
  clear hr hc
  have eg : ∀ args w, (callFunc 47 args).run Try.prog w = .ok (.enter 47 args) w := enters_of Try.func47 (by kernel_rfl) rfl
  go_enter Try.func46, Try.ntmps46
  go_wp2
  go_loopw [8] (fun v8 wr => ∃ k : Nat, v8 = .int .i64 k ∧ k ≤ l.length ∧ Aside0 (findFrom s (l.drop k) k = findS l s) ∧ Below w.heap.size w wr) (fun v8 _ => l.length - (intOf v8).toNat)
  case atStart => exact ⟨0, rfl, by omega, ⟨rfl⟩, Below.refl _ _⟩
  case round =>
    obtain ⟨k, rfl, hk, hf, hbw⟩ := hrel
    by_cases hlt : k < l.length
    · obtain ⟨ad, rfl, f0, f1⟩ := at_T34 (Kd.C_below HR.out hbw) (k : Int) (by omega) (by omega)
      have hq := Lib.hid (findFrom_drop s l k hlt)
      simp only [Int.toNat_natCast] at f0 f1
      have hcl : Calls Try.prog 47 #[.agg #[.string (rd_T34 l k).f0, .string (rd_T34 l k).f1], .pointer (some ⟨b, 0, none⟩)] wr _ := find1_calls (rd_T34 l k).f0 (rd_T34 l k).f1 s b wr (Nat.lt_of_lt_of_le hb hbw.size) ((hbw.cell (p := ⟨b, 0, none⟩) hb).trans HC.out)
      have Hcl := Lib.hid hcl
      clear hcl
      go_wp2_with (first | (go_at_fn 47; refine Hcl.out.mono ?_; rintro e w' ⟨rfl, hb2⟩))
      · have ht : ((rd_T34 l k).f0.toList == s.toList) = true := by assumption
        go_ret
        exact ⟨ret_i64 (by rw [← hf.out, hq.out, if_pos ht]), bel hbw hb2⟩
      · have ht : ((rd_T34 l k).f0.toList == s.toList) = false := by assumption
        exact ⟨⟨k + 1, by go_num, by omega, ⟨by rw [← hf.out, hq.out, if_neg (by rw [ht]; decide)]⟩, bel hbw hb2⟩, by simp [intOf]; omega⟩
    · have hd : l.drop k = [] := List.drop_of_length_le (by omega)
      have hq := Lib.hid hd
      clear hd
      go_wp2
      go_ret
      exact ⟨ret_i64 (by rw [← hf.out, hq.out]; rfl), hbw⟩

set_option maxRecDepth 100000 in
theorem find_calls (A0 : Option Addr) (c0 : Nat) (l : List S34) (s : ByteArray) (w : World) (hr : Kd.C k34 w A0 l.length l) :
    Calls Try.prog 34 #[.slice A0 l.length c0, .string s] w fun e w' => e = .returned (.int .i64 (findS l s)) ∧ Below w.heap.size w w' := by
  have HR := Aside0.mk hr
  clear hr
  have hbel : ∀ o, Below w.heap.size w (w.alloc o) := fun o => (Below.refl _ _).alloc (Nat.le_refl _) _
  have HB := Lib.hid hbel
  clear hbel
  go_enter Try.func34, Try.ntmps34
  go_wp2_with (first | (go_at_call 46; refine (indexFunc_calls _ _ _ s w.heap.size _ (Kd.C_below HR.out (HB.out _)) (by simp) (by simp)).mono ?_; rintro e w' ⟨rfl, hb2⟩))
  go_ret
  exact ⟨rfl, bel (HB.out _) hb2⟩

/-! scope.May -/
def okAt (l : List S34) (k : Nat) : Bool := nameMay (rd_T34 l k).f0 && (plainB (rd_T34 l k).f1 256 && findS l (rd_T34 l k).f0 == (k : Int))
def scopeMay (l : List S34) : Bool := (List.range l.length).all (okAt l) && decide ((l.length : Int) ≤ 16)
def longOk (l : List S34) : Bool := l.all fun x => decide (x.f1.size ≤ 9223372036854775807)
def scope_May.f (l0 : List S34) : Option Bool := if longOk l0 = true then some (scopeMay l0) else none
theorem rd_get (l : List S34) (k : Nat) (h : k < l.length) : rd_T34 l k = l[k] := by simp [rd_T34, List.getD_eq_getElem?_getD, h]
theorem long_at {l : List S34} (h : longOk l = true) (k : Nat) (hk : k < l.length) : (rd_T34 l k).f1.size ≤ 9223372036854775807 := by
  rw [rd_get l k hk]
  have := List.all_eq_true.1 h l[k] (List.getElem_mem hk)
  simpa using this
theorem all_no (l : List S34) (k : Nat) (hk : k < l.length) (h : okAt l k = false) : scopeMay l = false := by
  unfold scopeMay
  rw [Bool.and_eq_false_iff]
  left
  rw [List.all_eq_false]
  exact ⟨k, List.mem_range.2 hk, by simp [h]⟩


set_option maxRecDepth 100000 in
theorem scope_May_calls (A0 : Option Addr) (c0 : Nat) (l : List S34) (w : World) (hr : Kd.C k34 w A0 l.length l) (hL : longOk l = true) :
    Calls Try.prog 19 #[.slice A0 l.length c0] w fun e w' => e = .returned (.bool (scopeMay l)) ∧ Below w.heap.size w w' := by
  have HR := Aside0.mk hr
  have hm := C_max hr
  have HL := Lib.hid hL
  clear hr hL
  go_enter Try.func19, Try.ntmps19
  go_wp2
  go_loopw [7] (fun v7 wr => ∃ k : Nat, v7 = .int .i64 k ∧ k ≤ l.length ∧ Aside0 ((List.range k).all (okAt l) = true) ∧ Below w.heap.size w wr) (fun v7 _ => l.length - (intOf v7).toNat)
  case atStart => exact ⟨0, rfl, by omega, ⟨rfl⟩, Below.refl _ _⟩
  case round =>
    obtain ⟨k, rfl, hk, hf, hbw⟩ := hrel
    by_cases hlt : k < l.length
    · obtain ⟨ad, rfl, f0, f1⟩ := at_T34 (Kd.C_below HR.out hbw) (k : Int) (by omega) (by omega)
      have hlong := long_at HL.out k hlt
      have hno := Lib.hid (all_no l k hlt)
      have hokd : okAt l k = (nameMay (rd_T34 l k).f0 && (plainB (rd_T34 l k).f1 256 && findS l (rd_T34 l k).f0 == (k : Int))) := rfl
      have Hok := Lib.hid hokd
      clear hokd
      simp only [Int.toNat_natCast] at f0 f1
      obtain ⟨A, hA⟩ : ∃ A, nameMay (rd_T34 l k).f0 = A := ⟨_, rfl⟩
      obtain ⟨B, hB⟩ : ∃ B, plainB (rd_T34 l k).f1 256 = B := ⟨_, rfl⟩
      rw [hA, hB] at Hok
      go_wp2_with fail
      refine (may_calls _ _).mono ?_
      rintro e w1 ⟨rfl, hb1⟩
      obtain ⟨hc1, hf1⟩ := bcell hb1
      rw [hA]
      clear hA
      cases A
      · go_wp2
        go_ret
        exact ⟨ret_bool (by rw [hno.out (by rw [Hok.out]; rfl)]), bel (hbw.alloc hbw.size _) hb1⟩
      · go_wp2_with fail
        refine (plain_calls _ _ _ hlong).mono ?_
        rintro e w2 ⟨rfl, rfl⟩
        rw [hB]
        clear hB
        cases B
        · go_wp2
          go_ret
          exact ⟨ret_bool (by rw [hno.out (by rw [Hok.out]; rfl)]), bel (hbw.alloc hbw.size _) hb1⟩
        · go_wp2_with fail
          refine (find_calls _ _ _ _ _ (Kd.C_below (Kd.C_below HR.out (hbw.alloc hbw.size _)) hb1)).mono ?_
          rintro e w2 ⟨rfl, hb2⟩
          obtain ⟨F, hF⟩ : ∃ F, findS l (rd_T34 l k).f0 = F := ⟨_, rfl⟩
          rw [hF] at Hok ⊢
          clear hF
          by_cases he : F = k
          · subst he
            go_wp2
            exact ⟨⟨k + 1, by go_num, by omega, ⟨by rw [List.range_succ, List.all_append, hf.out]; simp [Hok.out]⟩, bel (bel (hbw.alloc hbw.size _) hb1) hb2⟩, by simp [intOf]; omega⟩
          · go_wp2
            go_ret
            exact ⟨ret_bool (by rw [hno.out (by rw [Hok.out]; simp [he])]), bel (bel (hbw.alloc hbw.size _) hb1) hb2⟩
    · obtain rfl : k = l.length := by omega
      have hs : scopeMay l = decide ((l.length : Int) ≤ 16) := by unfold scopeMay; rw [hf.out]; simp
      have Hs := Lib.hid hs
      clear hs
      go_wp2
      go_ret
      exact ⟨ret_bool (by rw [Hs.out]), hbw⟩

theorem scope_May.calls (A0 : Option Addr) (c0 : Nat) (l0 : List S34) (r : Bool) (w : World) (hr0 : Kd.C k34 w A0 l0.length l0) (_hc0 : l0.length ≤ c0) (h : scope_May.f l0 = some r) :
    Calls Try.prog 19 #[.slice A0 l0.length c0] w fun e w' => e = .returned (.bool r) ∧ Below w.heap.size w w' := by
  unfold scope_May.f at h
  by_cases hL : longOk l0 = true
  · rw [if_pos hL] at h
    obtain rfl := Option.some.inj h
    exact scope_May_calls A0 c0 l0 w hr0 hL
  · rw [if_neg hL] at h
    exact absurd h (by simp)
end Go.Proofs.Ytbkgcdjbkoeejaa.Print
