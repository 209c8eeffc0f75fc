-- By a program of ours (wip/tools/myprint.sh) out of the translation.
import Derived.Test.YtbkgcdjbkoeejaaP0
namespace Go.Proofs.Ytbkgcdjbkoeejaa.Print
open Go.RowKit Go.Proofs.YtbkgcdjbkoeejaaW.PrintWords Go.Proofs.YtbkgcdjbkoeejaaW.PrintLast Go.Proofs.YtbkgcdjbkoeejaaW.PrintMore
attribute [local go_sem] max2_int min2_int max_two min_two max_three min_three max_four min_four   -- for this text's walks alone
set_option linter.unusedVariables false
set_option linter.unusedSimpArgs false

/-! ### cruciblelaw5_long: function 14 -/
def cruciblelaw5_long.l0 : Nat → ByteArray → Int → Option (ByteArray)
  | 0, _, _ => none
  | k + 1, x1, x2 => if x2 ≤ 256 then (if x1.size + 1 ≤ 9223372036854775807 then (cruciblelaw5_long.l0 k (x1 ++ (⟨#[113]⟩ : ByteArray)) (wrap64 (x2 + 1))) else (none)) else (some x1)
def cruciblelaw5_long.f (k : Nat)  : Option (ByteArray) := cruciblelaw5_long.l0 k (⟨#[]⟩ : ByteArray) 0
theorem cruciblelaw5_long.mono_l : ∀ k, (∀ y0 y1, LeO (cruciblelaw5_long.l0 k y0 y1) (cruciblelaw5_long.l0 (k + 1) y0 y1))
  | 0 => fun _ _ r h => by simp [cruciblelaw5_long.l0] at h
  | k + 1 => by
    have ih0 := cruciblelaw5_long.mono_l k
    · intro y0 y1
      unfold cruciblelaw5_long.l0
      repeat' first
      | (with_reducible exact ih0 _ _)
      | (with_reducible exact LeO.refl _)
      | (with_reducible exact LeO.none _)
      | (with_reducible refine LeO.ite ?_ ?_)
      | (with_reducible refine LeO.bind ?_ (fun _ => ?_))
      | exact ih0 _ _
      | exact LeO.none _
      | refine LeO.ite ?_ ?_
      | refine LeO.bind ?_ (fun _ => ?_)
theorem cruciblelaw5_long.mono : ∀ k, LeO (cruciblelaw5_long.f k ) (cruciblelaw5_long.f (k + 1) ) := by
  intro  k
  have ih0 := cruciblelaw5_long.mono_l k
  unfold cruciblelaw5_long.f
  repeat' first
      | (with_reducible exact ih0 _ _)
      | (with_reducible exact LeO.refl _)
      | (with_reducible exact LeO.none _)
      | (with_reducible refine LeO.ite ?_ ?_)
      | (with_reducible refine LeO.bind ?_ (fun _ => ?_))
      | exact ih0 _ _
      | exact LeO.none _
      | refine LeO.ite ?_ ?_
      | refine LeO.bind ?_ (fun _ => ?_)
set_option maxHeartbeats 8000000 in
set_option maxRecDepth 100000 in
theorem cruciblelaw5_long.calls (k : Nat)  (r : ByteArray) (w : World) (h : cruciblelaw5_long.f k  = some r) :
    Calls Try.prog 14 #[] w fun e w' => e = .returned (.string r) ∧ Drawn0 w w' := by
  have H : (cruciblelaw5_long.l0 k (⟨#[]⟩ : ByteArray) 0) = some r := h
  clear h
  have H' := Aside0.mk H
  clear H
  go_enter Try.func14, Try.ntmps14
  go_wp2
  go_loopg [1, 2] k (fun kq v1 v2 w' => ∃ (x1_1 : ByteArray) (x2_1 : Int), v1 = .string x1_1 ∧ v2 = .int .i64 x2_1 ∧ Aside0 (cruciblelaw5_long.l0 kq x1_1 x2_1 = some r) ∧ Aside0 (kq ≤ k) ∧ Drawn0 w w')
  case atStart => exact ⟨((⟨#[]⟩ : ByteArray)), (0), (by first | rfl | (simp; done) | (simp [*]; done)), (by first | rfl | (simp; done) | (simp [*]; done)), H', ⟨Nat.le_refl _⟩, by repeat (first | exact Drawn0.refl _ | apply Drawn0.step)⟩
  case round =>
    clear H'
    obtain ⟨x1_1, x2_1, rfl, rfl, HA, HK1, ⟨m1, rfl⟩⟩ := hrel
    cases gk with
    | zero => exact absurd HA.out (by simp [cruciblelaw5_long.l0])
    | succ k1 =>
      have H := HA.out
      clear HA
      simp only [cruciblelaw5_long.l0] at H
      by_cases c1 : x2_1 ≤ 256
      · rw [if_pos c1] at H
        have c1b0 : decide (x2_1 ≤ 256) = true := decide_eq_true c1
        clear c1
        by_cases c2 : x1_1.size + 1 ≤ 9223372036854775807
        · rw [if_pos c2] at H
          have c2b0 := eq_true c2
          have c2b1 : decide (x1_1.size + 1 ≤ 9223372036854775807) = true := decide_eq_true c2
          try have c2b2 : (9223372036854775807 < x1_1.size + 1) = False := eq_false (Nat.not_lt.2 c2)
          have H' := Aside0.mk H
          clear H
          go_wp2
          go_roundg k1
          case measure => have := HK1.out; omega
          case rel => exact ⟨(x1_1 ++ (⟨#[113]⟩ : ByteArray)), (wrap64 (x2_1 + 1)), (by first | rfl | (simp; done) | (simp [*]; done)), (by first | rfl | (simp; done) | (simp [*]; done)), H', ⟨by have := HK1.out; omega⟩, by repeat (first | exact Drawn0.refl _ | apply Drawn0.step)⟩
        · rw [if_neg c2] at H
          exact absurd H (by simp)
      · rw [if_neg c1] at H
        have c1b0 : decide (x2_1 ≤ 256) = false := decide_eq_false c1
        clear c1
        obtain rfl := Option.some.inj H
        go_wp2
        go_ret
        exact ⟨by first | rfl | (simp; done) | (simp [*]; done), by repeat (first | exact Drawn0.refl _ | apply Drawn0.step)⟩

end Go.Proofs.Ytbkgcdjbkoeejaa.Print
