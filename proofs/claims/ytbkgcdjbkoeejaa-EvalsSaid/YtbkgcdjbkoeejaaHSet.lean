/- The contracts of scope.Set and scope.Get: what they answer of any binds, name and text of a length that Go has. -/
import Derived.Test.YtbkgcdjbkoeejaaHScope
namespace Go.Proofs.Ytbkgcdjbkoeejaa.Print
open Go.RowKit Go.Lib Go.Shelf Go.Proofs.YtbkgcdjbkoeejaaW.PrintWords Go.Proofs.YtbkgcdjbkoeejaaW.PrintLast Go.Proofs.YtbkgcdjbkoeejaaW.PrintMore

theorem findFrom_lt (s : ByteArray) : ∀ (l : List S34) (k : Nat), findFrom s l k < k + l.length ∧ (findFrom s l k < 0 → findFrom s l k = -1) ∧ (0 ≤ findFrom s l k → (k : Int) ≤ findFrom s l k)
  | [], k => ⟨by simp [findFrom]; omega, fun _ => rfl, fun h => by simp [findFrom] at h⟩
  | x :: l, k => by
    have ih := findFrom_lt s l (k + 1)
    unfold findFrom
    split
    · exact ⟨by simp; omega, fun h => by omega, fun _ => Int.le_refl _⟩
    · refine ⟨by simp only [List.length_cons]; omega, ih.2.1, fun h => ?_⟩
      have := ih.2.2 h
      omega
theorem findS_lt (l : List S34) (s : ByteArray) : findS l s < l.length := by
  have := (findFrom_lt s l 0).1
  unfold findS
  omega
theorem may_len {l : List S34} (h : scopeMay l = true) : l.length ≤ 16 := by
  unfold scopeMay at h
  simp at h
  omega

def scopeGet (l : List S34) (s : ByteArray) : ByteArray := if 0 ≤ findS l s ∧ scopeMay l = true then (rd_T34 l (findS l s)).f1 else ⟨#[]⟩
def scope_Get.f (l0 : List S34) (a1 : ByteArray) : Option ByteArray := if longOk l0 = true then some (scopeGet l0 a1) else none


set_option maxHeartbeats 1000000 in
set_option maxRecDepth 100000 in
theorem scope_Get_calls (A0 : Option Addr) (c0 : Nat) (l : List S34) (s : ByteArray) (w : World) (hr : Kd.C k34 w A0 l.length l) (hL : longOk l = true) :
    Calls Try.prog 21 #[.slice A0 l.length c0, .string s] w fun e w' => e = .returned (.string (scopeGet l s)) ∧ Below w.heap.size w w' := by
  have HR := Aside0.mk hr
  have HL := Lib.hid hL
  have hF := findS_lt l s
  have HD : Hid (scopeGet l s = if 0 ≤ findS l s ∧ scopeMay l = true then (rd_T34 l (findS l s)).f1 else ⟨#[]⟩) := rfl
  obtain ⟨F, hFd⟩ : ∃ F, findS l s = F := ⟨_, rfl⟩
  obtain ⟨M, hMd⟩ : ∃ M, scopeMay l = M := ⟨_, rfl⟩
  rw [hFd] at hF
  rw [hFd, hMd] at HD
  have HF := Lib.hid hFd
  have HM := Lib.hid hMd
  clear hr hL hFd hMd
  go_enter Try.func21, Try.ntmps21
  go_wp2_with fail
  refine (find_calls _ _ _ _ _ HR.out).mono ?_
  rintro e w1 ⟨rfl, hb1⟩
  rw [HF.out]
  by_cases hf : 0 ≤ F
  · go_wp2_with fail
    refine (scope_May_calls _ _ _ _ (Kd.C_below HR.out hb1) HL.out).mono ?_
    rintro e w2 ⟨rfl, hb2⟩
    rw [HM.out]
    replace hb2 := bel hb1 hb2
    clear hb1
    cases M
    · rw [if_neg (by simp)] at HD
      go_wp2_with fail
      go_ret
      exact ⟨ret_str HD.out.symm, hb2⟩
    · rw [if_pos ⟨hf, rfl⟩] at HD
      obtain ⟨ad, rfl, f0, f1⟩ := at_T34 (Kd.C_below HR.out hb2) F hf hF
      go_wp2_with fail
      go_ret
      exact ⟨ret_str HD.out.symm, hb2⟩
  · rw [if_neg (fun h => hf h.1)] at HD
    go_wp2_with fail
    go_ret
    exact ⟨ret_str HD.out.symm, hb1⟩

theorem scope_Get.calls (A0 : Option Addr) (c0 : Nat) (l0 : List S34) (a1 : ByteArray) (r : ByteArray) (w : World) (hr0 : Kd.C k34 w A0 l0.length l0) (_hc0 : l0.length ≤ c0) (h : scope_Get.f l0 a1 = some r) :
    Calls Try.prog 21 #[.slice A0 l0.length c0, .string a1] w fun e w' => e = .returned (.string r) ∧ Below w.heap.size w w' := by
  unfold scope_Get.f at h
  by_cases hL : longOk l0 = true
  · rw [if_pos hL] at h
    obtain rfl := Option.some.inj h
    exact scope_Get_calls A0 c0 l0 a1 w hr0 hL
  · rw [if_neg hL] at h
    exact absurd h (by simp)
end Go.Proofs.Ytbkgcdjbkoeejaa.Print
