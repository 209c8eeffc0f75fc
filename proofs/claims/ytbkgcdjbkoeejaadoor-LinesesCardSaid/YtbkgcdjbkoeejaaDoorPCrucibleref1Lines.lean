-- By a program of ours (wip/tools/myprint.sh) out of the translation.
import Derived.Test.YtbkgcdjbkoeejaaDoorP0
import Derived.Test.YtbkgcdjbkoeejaaDoorPCrucibleref1Split
import Derived.Test.YtbkgcdjbkoeejaaDoorPCrucibleref1Plain
import Derived.Test.YtbkgcdjbkoeejaaDoorPCrucibleref1GoesOn
import Derived.Test.YtbkgcdjbkoeejaaDoorPCrucibleref1Front
import Derived.Test.YtbkgcdjbkoeejaaDoorPCrucibleref1Trim
namespace Go.Proofs.YtbkgcdjbkoeejaaDoor.Print
open Go.RowKit Go.Proofs.YtbkgcdjbkoeejaaDoorW.PrintWords Go.Proofs.YtbkgcdjbkoeejaaDoorW.PrintLast Go.Proofs.YtbkgcdjbkoeejaaDoorW.PrintMore
attribute [local go_sem] max2_int min2_int max_two min_two max_three min_three max_four min_four   -- for this text's walks alone
set_option linter.unusedVariables false
set_option linter.unusedSimpArgs false

/-! ### crucibleref1_Lines: function 9 -/
mutual
def crucibleref1_Lines.j0 : Nat → ByteArray → Bool → Option ((List (S39)) × Int)
  | 0, _, _ => none
  | k + 1, x0, x26 => if x26 = true then (some (([] : List (S39)), 600)) else ((crucibleref1_split.f k x0 10).bind fun t108 => (if 0 ≤ (wrap64 ((t108.length : Int) - 1)) then (if (wrap64 ((t108.length : Int) - 1)) ≤ (t108.length : Int) then (crucibleref1_Lines.l0 k (t108.take ((wrap64 ((t108.length : Int) - 1)) : Int).toNat) 0) else (none)) else (none)))
def crucibleref1_Lines.l0 : Nat → List ByteArray → Int → Option ((List (S39)) × Int)
  | 0, _, _ => none
  | k + 1, x4, x5 => if x5 < (x4.length : Int) then (if 0 ≤ x5 then ((crucibleref1_Plain.f k (rdOf ByteArray.empty x4 x5) 0 2048).bind fun t115 => (if t115 = true then (crucibleref1_Lines.l0 k x4 (wrap64 (x5 + 1))) else (some (([] : List (S39)), 600)))) else (none)) else (crucibleref1_Lines.l1 k x4 ([] : List (S39)) 0)
def crucibleref1_Lines.l1 : Nat → List ByteArray → List (S39) → Int → Option ((List (S39)) × Int)
  | 0, _, _, _ => none
  | k + 1, x4, x6, x7 => if x7 < (x4.length : Int) then (if 0 ≤ x7 then (crucibleref1_Lines.l2 k x4 x6 x7 (rdOf ByteArray.empty x4 x7) (rdOf ByteArray.empty x4 x7)) else (none)) else (some (x6, 0))
def crucibleref1_Lines.l2 : Nat → List ByteArray → List (S39) → Int → ByteArray → ByteArray → Option ((List (S39)) × Int)
  | 0, _, _, _, _, _ => none
  | k + 1, x4, x6, x7, x8, x9 => (crucibleref1_goesOn.f k x9).bind fun t117 => (if t117 = true then (if (wrap64 (x7 + 1)) = (x4.length : Int) then (some (([] : List (S39)), 600)) else (if 0 ≤ (wrap64 (x7 + 1)) then (if (wrap64 (x7 + 1)) < (x4.length : Int) then ((crucibleref1_front.f k (rdOf ByteArray.empty x4 (wrap64 (x7 + 1)))).bind fun t119 => (if 0 ≤ (wrap64 ((x8.size : Int) - 1)) then (if (wrap64 ((x8.size : Int) - 1)) ≤ (x8.size : Int) then (if (x8.extract 0 ((wrap64 ((x8.size : Int) - 1)) : Int).toNat).size + t119.size ≤ 9223372036854775807 then (crucibleref1_Lines.l2 k x4 x6 (wrap64 (x7 + 1)) ((x8.extract 0 ((wrap64 ((x8.size : Int) - 1)) : Int).toNat) ++ t119) t119) else (none)) else (none)) else (none))) else (none)) else (none))) else ((crucibleref1_trim.f k x8).bind fun t120 => (if t120.toList = ([] : List UInt8) then (crucibleref1_Lines.l1 k x4 x6 (wrap64 (x7 + 1))) else (if 0 < (t120.size : Int) then (if (bt t120 0) = 35 then (crucibleref1_Lines.l1 k x4 x6 (wrap64 (x7 + 1))) else (if 0 < (x8.size : Int) then (if x6.length < 5864062014805 then (crucibleref1_Lines.l1 k x4 (x6 ++ [(⟨((bt x8 0) == 32), t120⟩ : S39)]) (wrap64 (x7 + 1))) else (none)) else (none))) else (none)))))
end
def crucibleref1_Lines.f (k : Nat) (a0 : ByteArray) : Option ((List (S39)) × Int) := if (a0.size : Int) > 2048 then (crucibleref1_Lines.j0 k a0 true) else (if (a0.size : Int) > 0 then (if 0 ≤ (wrap64 ((a0.size : Int) - 1)) then (if (wrap64 ((a0.size : Int) - 1)) < (a0.size : Int) then (crucibleref1_Lines.j0 k a0 ((bt a0 (wrap64 ((a0.size : Int) - 1))) != 10)) else (none)) else (none)) else (crucibleref1_Lines.j0 k a0 false))
theorem crucibleref1_Lines.mono_l : ∀ k, (∀ y0 y1, LeO (crucibleref1_Lines.j0 k y0 y1) (crucibleref1_Lines.j0 (k + 1) y0 y1)) ∧ (∀ y0 y1, LeO (crucibleref1_Lines.l0 k y0 y1) (crucibleref1_Lines.l0 (k + 1) y0 y1)) ∧ (∀ y0 y1 y2, LeO (crucibleref1_Lines.l1 k y0 y1 y2) (crucibleref1_Lines.l1 (k + 1) y0 y1 y2)) ∧ (∀ y0 y1 y2 y3 y4, LeO (crucibleref1_Lines.l2 k y0 y1 y2 y3 y4) (crucibleref1_Lines.l2 (k + 1) y0 y1 y2 y3 y4))
  | 0 => ⟨fun _ _ r h => by simp [crucibleref1_Lines.j0] at h, fun _ _ r h => by simp [crucibleref1_Lines.l0] at h, fun _ _ _ r h => by simp [crucibleref1_Lines.l1] at h, fun _ _ _ _ _ r h => by simp [crucibleref1_Lines.l2] at h⟩
  | k + 1 => by
    obtain ⟨ih0, ih1, ih2, ih3⟩ := crucibleref1_Lines.mono_l k
    refine ⟨?_, ?_, ?_, ?_⟩
    · intro y0 y1
      unfold crucibleref1_Lines.j0
      repeat' first
      | (with_reducible exact ih0 _ _)
      | (with_reducible exact ih1 _ _)
      | (with_reducible exact ih2 _ _ _)
      | (with_reducible exact ih3 _ _ _ _ _)
      | (with_reducible exact crucibleref1_Plain.mono _ _ _ _)
      | (with_reducible exact crucibleref1_front.mono _ _)
      | (with_reducible exact crucibleref1_goesOn.mono _ _)
      | (with_reducible exact crucibleref1_split.mono _ _ _)
      | (with_reducible exact crucibleref1_trim.mono _ _)
      | (with_reducible exact LeO.refl _)
      | (with_reducible exact LeO.none _)
      | (with_reducible refine LeO.ite ?_ ?_)
      | (with_reducible refine LeO.bind ?_ (fun _ => ?_))
      | exact ih0 _ _
      | exact ih1 _ _
      | exact ih2 _ _ _
      | exact ih3 _ _ _ _ _
      | exact crucibleref1_Plain.mono _ _ _ _
      | exact crucibleref1_front.mono _ _
      | exact crucibleref1_goesOn.mono _ _
      | exact crucibleref1_split.mono _ _ _
      | exact crucibleref1_trim.mono _ _
      | exact LeO.none _
      | refine LeO.ite ?_ ?_
      | refine LeO.bind ?_ (fun _ => ?_)
    · intro y0 y1
      unfold crucibleref1_Lines.l0
      repeat' first
      | (with_reducible exact ih0 _ _)
      | (with_reducible exact ih1 _ _)
      | (with_reducible exact ih2 _ _ _)
      | (with_reducible exact ih3 _ _ _ _ _)
      | (with_reducible exact crucibleref1_Plain.mono _ _ _ _)
      | (with_reducible exact crucibleref1_front.mono _ _)
      | (with_reducible exact crucibleref1_goesOn.mono _ _)
      | (with_reducible exact crucibleref1_split.mono _ _ _)
      | (with_reducible exact crucibleref1_trim.mono _ _)
      | (with_reducible exact LeO.refl _)
      | (with_reducible exact LeO.none _)
      | (with_reducible refine LeO.ite ?_ ?_)
      | (with_reducible refine LeO.bind ?_ (fun _ => ?_))
      | exact ih0 _ _
      | exact ih1 _ _
      | exact ih2 _ _ _
      | exact ih3 _ _ _ _ _
      | exact crucibleref1_Plain.mono _ _ _ _
      | exact crucibleref1_front.mono _ _
      | exact crucibleref1_goesOn.mono _ _
      | exact crucibleref1_split.mono _ _ _
      | exact crucibleref1_trim.mono _ _
      | exact LeO.none _
      | refine LeO.ite ?_ ?_
      | refine LeO.bind ?_ (fun _ => ?_)
    · intro y0 y1 y2
      unfold crucibleref1_Lines.l1
      repeat' first
      | (with_reducible exact ih0 _ _)
      | (with_reducible exact ih1 _ _)
      | (with_reducible exact ih2 _ _ _)
      | (with_reducible exact ih3 _ _ _ _ _)
      | (with_reducible exact crucibleref1_Plain.mono _ _ _ _)
      | (with_reducible exact crucibleref1_front.mono _ _)
      | (with_reducible exact crucibleref1_goesOn.mono _ _)
      | (with_reducible exact crucibleref1_split.mono _ _ _)
      | (with_reducible exact crucibleref1_trim.mono _ _)
      | (with_reducible exact LeO.refl _)
      | (with_reducible exact LeO.none _)
      | (with_reducible refine LeO.ite ?_ ?_)
      | (with_reducible refine LeO.bind ?_ (fun _ => ?_))
      | exact ih0 _ _
      | exact ih1 _ _
      | exact ih2 _ _ _
      | exact ih3 _ _ _ _ _
      | exact crucibleref1_Plain.mono _ _ _ _
      | exact crucibleref1_front.mono _ _
      | exact crucibleref1_goesOn.mono _ _
      | exact crucibleref1_split.mono _ _ _
      | exact crucibleref1_trim.mono _ _
      | exact LeO.none _
      | refine LeO.ite ?_ ?_
      | refine LeO.bind ?_ (fun _ => ?_)
    · intro y0 y1 y2 y3 y4
      unfold crucibleref1_Lines.l2
      repeat' first
      | (with_reducible exact ih0 _ _)
      | (with_reducible exact ih1 _ _)
      | (with_reducible exact ih2 _ _ _)
      | (with_reducible exact ih3 _ _ _ _ _)
      | (with_reducible exact crucibleref1_Plain.mono _ _ _ _)
      | (with_reducible exact crucibleref1_front.mono _ _)
      | (with_reducible exact crucibleref1_goesOn.mono _ _)
      | (with_reducible exact crucibleref1_split.mono _ _ _)
      | (with_reducible exact crucibleref1_trim.mono _ _)
      | (with_reducible exact LeO.refl _)
      | (with_reducible exact LeO.none _)
      | (with_reducible refine LeO.ite ?_ ?_)
      | (with_reducible refine LeO.bind ?_ (fun _ => ?_))
      | exact ih0 _ _
      | exact ih1 _ _
      | exact ih2 _ _ _
      | exact ih3 _ _ _ _ _
      | exact crucibleref1_Plain.mono _ _ _ _
      | exact crucibleref1_front.mono _ _
      | exact crucibleref1_goesOn.mono _ _
      | exact crucibleref1_split.mono _ _ _
      | exact crucibleref1_trim.mono _ _
      | exact LeO.none _
      | refine LeO.ite ?_ ?_
      | refine LeO.bind ?_ (fun _ => ?_)
theorem crucibleref1_Lines.mono : ∀ a0 k, LeO (crucibleref1_Lines.f k a0) (crucibleref1_Lines.f (k + 1) a0) := by
  intro a0 k
  obtain ⟨ih0, ih1, ih2, ih3⟩ := crucibleref1_Lines.mono_l k
  unfold crucibleref1_Lines.f
  repeat' first
      | (with_reducible exact ih0 _ _)
      | (with_reducible exact ih1 _ _)
      | (with_reducible exact ih2 _ _ _)
      | (with_reducible exact ih3 _ _ _ _ _)
      | (with_reducible exact crucibleref1_Plain.mono _ _ _ _)
      | (with_reducible exact crucibleref1_front.mono _ _)
      | (with_reducible exact crucibleref1_goesOn.mono _ _)
      | (with_reducible exact crucibleref1_split.mono _ _ _)
      | (with_reducible exact crucibleref1_trim.mono _ _)
      | (with_reducible exact LeO.refl _)
      | (with_reducible exact LeO.none _)
      | (with_reducible refine LeO.ite ?_ ?_)
      | (with_reducible refine LeO.bind ?_ (fun _ => ?_))
      | exact ih0 _ _
      | exact ih1 _ _
      | exact ih2 _ _ _
      | exact ih3 _ _ _ _ _
      | exact crucibleref1_Plain.mono _ _ _ _
      | exact crucibleref1_front.mono _ _
      | exact crucibleref1_goesOn.mono _ _
      | exact crucibleref1_split.mono _ _ _
      | exact crucibleref1_trim.mono _ _
      | exact LeO.none _
      | refine LeO.ite ?_ ?_
      | refine LeO.bind ?_ (fun _ => ?_)
set_option maxHeartbeats 8000000 in
set_option maxRecDepth 100000 in
theorem crucibleref1_Lines.calls (k : Nat) (a0 : ByteArray) (r1 : List (S39)) (r2 : Int) (w : World) (h : crucibleref1_Lines.f k a0 = some (r1, r2)) :
    Calls Tryd.prog 9 #[.string a0] w fun e w' => ∃ v0_ : Value, e = .returned (.tuple #[v0_, .int .i64 r2]) ∧ Kd.R k39 39 w' w.heap.size (fun _ => True) v0_ r1 ∧ Below w.heap.size w w' := by
  have hu39 := Tryd.underlying39
  have HB := Aside0.mk (Below.refl w.heap.size w)
  have H : (if (a0.size : Int) > 2048 then (crucibleref1_Lines.j0 k a0 true) else (if (a0.size : Int) > 0 then (if 0 ≤ (wrap64 ((a0.size : Int) - 1)) then (if (wrap64 ((a0.size : Int) - 1)) < (a0.size : Int) then (crucibleref1_Lines.j0 k a0 ((bt a0 (wrap64 ((a0.size : Int) - 1))) != 10)) else (none)) else (none)) else (crucibleref1_Lines.j0 k a0 false))) = some (r1, r2) := h
  clear h
  have HC2 := Aside0.mk H
  clear H
  go_enter Tryd.func9, Tryd.ntmps9
  go_upto_region 1 with (fail)
  go_cut [26] (fun v26 wc => ∃ (kq : Nat) (x26_1 : Bool), v26 = .bool x26_1 ∧ Aside0 (crucibleref1_Lines.j0 kq a0 x26_1 = some (r1, r2)) ∧ Aside0 (kq ≤ k) ∧ Aside0 (Below w.heap.size w wc))
  case first =>
    have H := HC2.out
    clear HC2
    by_cases c3 : (a0.size : Int) > 2048
    · rw [if_pos c3] at H
      have c3b0 : decide (2048 < (a0.size : Int)) = true := decide_eq_true c3
      have c3b1 : decide (2048 < a0.size) = true := decide_eq_true (by omega)
      clear c3
      (first | rw [c3b0] | (simp only [i64_w, i32_w]; rw [c3b0]) | skip)
      have H' := Aside0.mk H
      clear H
      go_wp2
      go_meet
      case rel => exact ⟨_, (true), (by first | rfl | (simp; done) | (simp [*]; done)), H', ⟨by first | omega | exact Nat.le_refl _⟩, ⟨by repeat (first | (with_reducible first | exact HB.out | apply below_alloc | apply pw_below_drewN | apply below_drew1) | exact HB.out)⟩⟩
    · rw [if_neg c3] at H
      have c3b0 : decide (2048 < (a0.size : Int)) = false := decide_eq_false c3
      have c3b1 : decide (2048 < a0.size) = false := decide_eq_false (by omega)
      clear c3
      (first | rw [c3b0] | (simp only [i64_w, i32_w]; rw [c3b0]) | skip)
      by_cases c4 : (a0.size : Int) > 0
      · rw [if_pos c4] at H
        have c4b0 : decide (0 < (a0.size : Int)) = true := decide_eq_true c4
        have c4b1 : decide (0 < a0.size) = true := decide_eq_true (by omega)
        clear c4
        obtain ⟨ji5, hji5⟩ : ∃ j_ : Int, (wrap64 ((a0.size : Int) - 1)) = j_ := ⟨_, rfl⟩
        replace H : (if 0 ≤ (ji5) then (if (ji5) < (a0.size : Int) then (crucibleref1_Lines.j0 k a0 ((bt a0 (ji5)) != 10)) else (none)) else (none)) = some (r1, r2) := by first | (rw [hji5] at H; exact H) | (simp only [hji5] at H ⊢; exact H)
        have hji5w : (IntKind.i64.wrap ((a0.size : Int) - 1)) = ji5 := (i64_w _).trans hji5
        by_cases c6 : 0 ≤ (ji5)
        · rw [if_pos c6] at H
          have c6b0 : decide (0 ≤ (ji5)) = true := decide_eq_true c6
          clear c6
          by_cases c7 : (ji5) < (a0.size : Int)
          · rw [if_pos c7] at H
            have c7b0 : decide ((ji5) < (a0.size : Int)) = true := decide_eq_true c7
            clear c7
            have H' := Aside0.mk H
            clear H
            have p8 : 0 ≤ ((ji5) : Int) := of_decide_eq_true (by first | (with_reducible assumption) | assumption)
            have q8 : (ji5) < (a0.size : Int) := of_decide_eq_true (by first | (with_reducible assumption) | assumption)
            have hx8 := bt_at a0 (ji5)
            replace p8 := eq_true p8
            replace q8 := eq_true q8
            go_wp2
            go_meet
            case rel => exact ⟨_, (((bt a0 (ji5)) != 10)), (by first | rfl | (simp; done) | (simp only [← hji5] <;> (first | rfl | simp)) | (simp [*]; done)), H', ⟨by first | omega | exact Nat.le_refl _⟩, ⟨by repeat (first | (with_reducible first | exact HB.out | apply below_alloc | apply pw_below_drewN | apply below_drew1) | exact HB.out)⟩⟩
          · rw [if_neg c7] at H
            exact absurd H (by simp)
        · rw [if_neg c6] at H
          exact absurd H (by simp)
      · rw [if_neg c4] at H
        have c4b0 : decide (0 < (a0.size : Int)) = false := decide_eq_false c4
        have c4b1 : decide (0 < a0.size) = false := decide_eq_false (by omega)
        clear c4
        have H' := Aside0.mk H
        clear H
        go_wp2
        go_meet
        case rel => exact ⟨_, (false), (by first | rfl | (simp; done) | (simp [*]; done)), H', ⟨by first | omega | exact Nat.le_refl _⟩, ⟨by repeat (first | (with_reducible first | exact HB.out | apply below_alloc | apply pw_below_drewN | apply below_drew1) | exact HB.out)⟩⟩
  case rest =>
    clear HC2
    try clear p2
    try clear c3
    try clear c3b0
    try clear c3b1
    try clear c4
    try clear c4b0
    try clear c4b1
    try clear c6
    try clear c6b0
    try clear p6
    try clear c7
    try clear c7b0
    try clear p8
    try clear q8
    try clear hx8
    try clear p8
    try clear q8
    obtain ⟨kq, x26_1, rfl, HA, HJ1, HB⟩ := hcut
    cases kq with
    | zero => exact absurd HA.out (by simp [crucibleref1_Lines.j0])
    | succ kj1 =>
      have H := HA.out
      clear HA
      simp only [crucibleref1_Lines.j0] at H
      by_cases c9 : x26_1 = true
      · subst c9
        have H1 : (some (([] : List (S39)), 600)) = some (r1, r2) := by rw [if_pos rfl] at H; exact H
        clear H
        have H := H1
        clear H1
        simp only [Option.some.injEq, Prod.mk.injEq] at H
        obtain ⟨rfl, rfl⟩ := H
        go_wp2
        go_ret2
        exact ⟨_, by first | rfl | (simp [errW_none, errW_some] <;> rfl) | (simp [*, errW_none, errW_some] <;> rfl), by first | exact Kd.R_nil _ _ _ _ _ | exact Kd.N_nil _ _ _ _ _ | exact Kd.V_nil _ _ _ _ _ | exact Kd.Q_nil _ _ _ _ _ | exact Kd.S_nil _ _ _ _ _, by repeat (first | (with_reducible first | exact HB.out | apply below_alloc | apply pw_below_drewN | apply below_drew1) | exact HB.out)⟩
      · replace c9 := Bool.eq_false_iff.mpr c9
        subst c9
        have H1 : ((crucibleref1_split.f kj1 a0 10).bind fun t108 => (if 0 ≤ (wrap64 ((t108.length : Int) - 1)) then (if (wrap64 ((t108.length : Int) - 1)) ≤ (t108.length : Int) then (crucibleref1_Lines.l0 kj1 (t108.take ((wrap64 ((t108.length : Int) - 1)) : Int).toNat) 0) else (none)) else (none))) = some (r1, r2) := by rw [if_neg (show ¬ (false = true) by decide)] at H; exact H
        clear H
        have H := H1
        clear H1
        replace H := Option.bind_eq_some_iff.mp H
        obtain ⟨t108, A100, H⟩ := H
        replace H : (if 0 ≤ (wrap64 ((t108.length : Int) - 1)) then (if (wrap64 ((t108.length : Int) - 1)) ≤ (t108.length : Int) then (crucibleref1_Lines.l0 kj1 (t108.take ((wrap64 ((t108.length : Int) - 1)) : Int).toNat) 0) else (none)) else (none)) = some (r1, r2) := H
        have A10 := Aside0.mk A100
        clear A100
        obtain ⟨ji11, hji11⟩ : ∃ j_ : Int, (wrap64 ((t108.length : Int) - 1)) = j_ := ⟨_, rfl⟩
        replace H : (if 0 ≤ (ji11) then (if (ji11) ≤ (t108.length : Int) then (crucibleref1_Lines.l0 kj1 (t108.take ((ji11) : Int).toNat) 0) else (none)) else (none)) = some (r1, r2) := by first | (rw [hji11] at H; exact H) | (simp only [hji11] at H ⊢; exact H)
        (try rw [hji11] at A10)
        have hji11w : (IntKind.i64.wrap ((t108.length : Int) - 1)) = ji11 := (i64_w _).trans hji11
        by_cases c12 : 0 ≤ (ji11)
        · rw [if_pos c12] at H
          have c12b0 := eq_true c12
          have c12b1 : decide (0 ≤ (ji11)) = true := decide_eq_true c12
          clear c12
          by_cases c13 : (ji11) ≤ (t108.length : Int)
          · rw [if_pos c13] at H
            have c13b0 := eq_true c13
            have c13b1 : decide ((ji11) ≤ (t108.length : Int)) = true := decide_eq_true c13
            clear c13
            obtain ⟨y111, hy111⟩ : ∃ y_ : List ByteArray, y_ = (t108.take ((ji11) : Int).toNat) := ⟨_, rfl⟩
            replace H : (crucibleref1_Lines.l0 kj1 y111 0) = some (r1, r2) := by first | (rw [hy111]; with_reducible exact H) | (have H2_ := (Option.bind_some _ _).symm.trans H; rw [hy111]; with_reducible exact H2_) | (have H2_ := (Option.bind_some _ _).symm.trans H; with_reducible exact H2_) | with_reducible exact H | (rw [hy111]; exact H) | exact H
            have Ny111 := Aside0.mk hy111
            clear hy111
            have H' := Aside0.mk H
            clear H
            go_wp2_with (first | ((with_reducible refine gate_callee (f := 19) rfl ?_); refine goesL_ (some 28) rfl rfl Tryd.func19 (by kernel_rfl) rfl #[.string a0, .int .u8 10] rfl (by (try simp only [List.map_toArray, List.map_cons, List.map_nil]); first | done | rfl | (simp only [List.length_drop, List.length_take]; rfl)) ?_; (with_reducible refine (crucibleref1_split.calls kj1 a0 10 t108 _ A10.out).mono ?_); rintro e w14 ⟨v109, rfl, ho0, hb⟩; refine ⟨_, rfl, ?_⟩; have n0_ := Aside0.mk (Kd.R_lower ho0 (below_size (by repeat (first | (with_reducible first | exact HB.out | apply below_alloc | apply pw_below_drewN | apply below_drew1) | exact HB.out)))); have n1_ := Aside0.mk (below_step (by repeat (first | (with_reducible first | exact HB.out | apply below_alloc | apply pw_below_drewN | apply below_drew1) | exact HB.out)) hb); clear HB; have HO110 := n0_; have HB := n1_; clear n0_ n1_; (try clear hb); (try clear hb2); (try clear hk); (try clear hi); (try clear ho0); obtain ⟨Ao15, co15, eo15⟩ := Kd.R_slice HO110.out; subst eo15; have q16 : ((ji11) : Int) ≤ ((t108.length : Int) : Int) := of_decide_eq_true (by first | (with_reducible assumption) | assumption); obtain ⟨i016, hi016, _, hsz16, _⟩ := info_parts info9; have hcut16 := cut_to (P := Tryd.prog) 33 9 .i64 Tryd.underlying33 hi016 Ao15 t108.length co15 (ji11) (of_decide_eq_true (by first | (with_reducible assumption) | assumption)) q16 (Kd.R_reads' HO110.out).2.1; have hr16 := Kd.R_take (m := ((ji11) : Int).toNat) HO110.out (by omega); have hy16 : y111.length = ((ji11) : Int).toNat := (by rw [Ny111.out, List.length_take]; omega); rw [← Ny111.out] at hr16; rw [← hy16] at hr16 hcut16; clear hy16 hi016 hsz16 HO110; have HO113 := Aside0.mk hr16; clear hr16; replace q16 := eq_true q16))
            go_loopg [5] kj1 (fun kq v5 w' => ∃ (x5_2 : Int), v5 = .int .i64 x5_2 ∧ Aside0 (crucibleref1_Lines.l0 kq y111 x5_2 = some (r1, r2)) ∧ Aside0 (kq ≤ kj1) ∧ Aside0 (Kd.R Kd.string 9 w' w.heap.size (fun _ => True) (.slice Ao15 y111.length co15) y111) ∧ Aside0 (Below w.heap.size w w'))
            case atStart => exact ⟨(0), (by first | rfl | (simp; done) | (simp [*]; done)), H', ⟨Nat.le_refl _⟩, ⟨by (with_reducible repeat (first | apply Kd.R_alloc | apply Kd.R_drewN | apply Kd.R_drew)); exact HO113.out⟩, ⟨by repeat (first | (with_reducible first | exact HB.out | apply below_alloc | apply pw_below_drewN | apply below_drew1) | exact HB.out)⟩⟩
            case round =>
              clear H'
              try clear c1
              try clear q1
              try clear p2
              try clear c3
              try clear c3b0
              try clear c3b1
              try clear c4
              try clear c4b0
              try clear c4b1
              try clear c6
              try clear c6b0
              try clear p6
              try clear c7
              try clear c7b0
              try clear p8
              try clear q8
              try clear hx8
              try clear c9
              try clear c12
              try clear c12b0
              try clear c12b1
              try clear c13
              try clear c13b0
              try clear c13b1
              try clear q16
              try clear p2
              try clear p6
              try clear p8
              try clear q16
              try clear q8
              obtain ⟨x5_2, rfl, HA, HK2, HO_4, HB⟩ := hrel
              cases gk with
              | zero => exact absurd HA.out (by simp [crucibleref1_Lines.l0])
              | succ k2 =>
                have H := HA.out
                clear HA
                simp only [crucibleref1_Lines.l0] at H
                by_cases c17 : x5_2 < (y111.length : Int)
                · rw [if_pos c17] at H
                  have c17b0 : decide (x5_2 < (y111.length : Int)) = true := decide_eq_true c17
                  clear c17
                  by_cases c18 : 0 ≤ x5_2
                  · rw [if_pos c18] at H
                    have c18b0 : decide (0 ≤ x5_2) = true := decide_eq_true c18
                    clear c18
                    replace H := Option.bind_eq_some_iff.mp H
                    obtain ⟨t115, A190, H⟩ := H
                    replace H : (if t115 = true then (crucibleref1_Lines.l0 k2 y111 (wrap64 (x5_2 + 1))) else (some (([] : List (S39)), 600))) = some (r1, r2) := H
                    have A19 := Aside0.mk A190
                    clear A190
                    by_cases c20 : t115 = true
                    · subst c20
                      have H1 : (crucibleref1_Lines.l0 k2 y111 (wrap64 (x5_2 + 1))) = some (r1, r2) := by rw [if_pos rfl] at H; exact H
                      clear H
                      have H := H1
                      clear H1
                      have H' := Aside0.mk H
                      clear H
                      have p114 : 0 ≤ (x5_2 : Int) := of_decide_eq_true (by first | (with_reducible assumption) | assumption)
                      have q114 : x5_2 < (y111.length : Int) := of_decide_eq_true (by first | (with_reducible assumption) | assumption)
                      obtain ⟨ad114, e114, hx114_0⟩ := Kd.at_string (Kd.R_reads' HO_4.out).2.2 x5_2 p114 q114
                      cases e114
                      replace p114 := eq_true p114
                      replace q114 := eq_true q114
                      go_wp2_with (first | ((with_reducible refine gate_callee (f := 20) rfl ?_); refine goesL_ (some 44) rfl rfl Tryd.func20 (by kernel_rfl) rfl #[.string (rdOf ByteArray.empty y111 x5_2), .int .i64 0, .int .i64 2048] rfl (by (try simp only [List.map_toArray, List.map_cons, List.map_nil]); first | done | rfl | (simp only [List.length_drop, List.length_take]; rfl)) ?_; (with_reducible refine (crucibleref1_Plain.calls k2 (rdOf ByteArray.empty y111 x5_2) 0 2048 true _ A19.out).mono ?_); rintro e w' ⟨rfl, ⟨nd, rfl⟩⟩; refine ⟨_, rfl, ?_⟩))
                      go_roundg k2
                      case measure => have := HJ1.out; have := HK2.out; omega
                      case rel => exact ⟨(wrap64 (x5_2 + 1)), (by first | rfl | (simp; done) | (simp [*]; done)), H', ⟨by have := HJ1.out; have := HK2.out; omega⟩, ⟨by (with_reducible repeat (first | apply Kd.R_alloc | apply Kd.R_drewN | apply Kd.R_drew)); exact HO_4.out⟩, ⟨by repeat (first | (with_reducible first | exact HB.out | apply below_alloc | apply pw_below_drewN | apply below_drew1) | exact HB.out)⟩⟩
                    · replace c20 := Bool.eq_false_iff.mpr c20
                      subst c20
                      have H1 : (some (([] : List (S39)), 600)) = some (r1, r2) := by rw [if_neg (show ¬ (false = true) by decide)] at H; exact H
                      clear H
                      have H := H1
                      clear H1
                      simp only [Option.some.injEq, Prod.mk.injEq] at H
                      obtain ⟨rfl, rfl⟩ := H
                      have p114 : 0 ≤ (x5_2 : Int) := of_decide_eq_true (by first | (with_reducible assumption) | assumption)
                      have q114 : x5_2 < (y111.length : Int) := of_decide_eq_true (by first | (with_reducible assumption) | assumption)
                      obtain ⟨ad114, e114, hx114_0⟩ := Kd.at_string (Kd.R_reads' HO_4.out).2.2 x5_2 p114 q114
                      cases e114
                      replace p114 := eq_true p114
                      replace q114 := eq_true q114
                      go_wp2_with (first | ((with_reducible refine gate_callee (f := 20) rfl ?_); refine goesL_ (some 44) rfl rfl Tryd.func20 (by kernel_rfl) rfl #[.string (rdOf ByteArray.empty y111 x5_2), .int .i64 0, .int .i64 2048] rfl (by (try simp only [List.map_toArray, List.map_cons, List.map_nil]); first | done | rfl | (simp only [List.length_drop, List.length_take]; rfl)) ?_; (with_reducible refine (crucibleref1_Plain.calls k2 (rdOf ByteArray.empty y111 x5_2) 0 2048 false _ A19.out).mono ?_); rintro e w' ⟨rfl, ⟨nd, rfl⟩⟩; refine ⟨_, rfl, ?_⟩))
                      go_ret2
                      exact ⟨_, by first | rfl | (simp [errW_none, errW_some] <;> rfl) | (simp only [← hji11]; first | rfl | (simp [errW_none, errW_some] <;> rfl)) | (simp [*, errW_none, errW_some] <;> rfl), by first | exact Kd.R_nil _ _ _ _ _ | exact Kd.N_nil _ _ _ _ _ | exact Kd.V_nil _ _ _ _ _ | exact Kd.Q_nil _ _ _ _ _ | exact Kd.S_nil _ _ _ _ _, by repeat (first | (with_reducible first | exact HB.out | apply below_alloc | apply pw_below_drewN | apply below_drew1) | exact HB.out)⟩
                  · rw [if_neg c18] at H
                    exact absurd H (by simp)
                · rw [if_neg c17] at H
                  have c17b0 : decide (x5_2 < (y111.length : Int)) = false := decide_eq_false c17
                  clear c17
                  have H' := Aside0.mk H
                  clear H
                  go_wp2
                  go_loopg [6, 7] k2 (fun kq v6 v7 w' => ∃ (x6_3 : List (S39)) (x7_3 : Int), v7 = .int .i64 x7_3 ∧ Aside0 (crucibleref1_Lines.l1 kq y111 x6_3 x7_3 = some (r1, r2)) ∧ Aside0 (kq ≤ k2) ∧ Aside0 (Kd.R Kd.string 9 w' w.heap.size (fun _ => True) (.slice Ao15 y111.length co15) y111) ∧ Aside0 (Kd.R k39 39 w' w.heap.size (fun _ => True) v6 x6_3) ∧ Aside0 (Below w.heap.size w w'))
                  case atStart => exact ⟨(([] : List (S39))), (0), (by first | rfl | (simp; done) | (simp [*]; done)), H', ⟨Nat.le_refl _⟩, ⟨by (with_reducible repeat (first | apply Kd.R_alloc | apply Kd.R_drewN | apply Kd.R_drew)); exact HO_4.out⟩, ⟨by first | exact Kd.R_nil _ _ _ _ _ | exact Kd.N_nil _ _ _ _ _ | exact Kd.V_nil _ _ _ _ _ | exact Kd.Q_nil _ _ _ _ _ | exact Kd.S_nil _ _ _ _ _⟩, ⟨by repeat (first | (with_reducible first | exact HB.out | apply below_alloc | apply pw_below_drewN | apply below_drew1) | exact HB.out)⟩⟩
                  case round =>
                    clear H'
                    try clear c1
                    try clear p1
                    try clear q1
                    try clear hx1
                    try clear c2
                    try clear p2
                    try clear c3
                    try clear c3b0
                    try clear c3b1
                    try clear c4
                    try clear c4b0
                    try clear c4b1
                    try clear c6
                    try clear c6b0
                    try clear p6
                    try clear c7
                    try clear c7b0
                    try clear p8
                    try clear q8
                    try clear hx8
                    try clear c9
                    try clear p11
                    try clear q11
                    try clear hx11
                    try clear c12
                    try clear c12b0
                    try clear c12b1
                    try clear c13
                    try clear c13b0
                    try clear c13b1
                    try clear q16
                    try clear c17
                    try clear c17b0
                    try clear c18
                    try clear c18b0
                    try clear c19
                    try clear c20
                    try clear hx114_0
                    try clear p114
                    try clear p2
                    try clear p6
                    try clear p8
                    try clear q1
                    try clear q114
                    try clear q16
                    try clear q8
                    obtain ⟨x6_3, x7_3, rfl, HA, HK3, HO_4, HO_6, HB⟩ := hrel
                    cases gk with
                    | zero => exact absurd HA.out (by simp [crucibleref1_Lines.l1])
                    | succ k3 =>
                      have H := HA.out
                      clear HA
                      simp only [crucibleref1_Lines.l1] at H
                      by_cases c21 : x7_3 < (y111.length : Int)
                      · rw [if_pos c21] at H
                        have c21b0 : decide (x7_3 < (y111.length : Int)) = true := decide_eq_true c21
                        clear c21
                        by_cases c22 : 0 ≤ x7_3
                        · rw [if_pos c22] at H
                          have c22b0 : decide (0 ≤ x7_3) = true := decide_eq_true c22
                          clear c22
                          have H' := Aside0.mk H
                          clear H
                          have p116 : 0 ≤ (x7_3 : Int) := of_decide_eq_true (by first | (with_reducible assumption) | assumption)
                          have q116 : x7_3 < (y111.length : Int) := of_decide_eq_true (by first | (with_reducible assumption) | assumption)
                          obtain ⟨ad116, e116, hx116_0⟩ := Kd.at_string (Kd.R_reads' HO_4.out).2.2 x7_3 p116 q116
                          cases e116
                          replace p116 := eq_true p116
                          replace q116 := eq_true q116
                          go_wp2
                          go_loopg [7, 8, 9] k3 (fun kq v7 v8 v9 w' => ∃ (x7_4 : Int) (x8_4 : ByteArray) (x9_4 : ByteArray), v7 = .int .i64 x7_4 ∧ v8 = .string x8_4 ∧ v9 = .string x9_4 ∧ Aside0 (crucibleref1_Lines.l2 kq y111 x6_3 x7_4 x8_4 x9_4 = some (r1, r2)) ∧ Aside0 (kq ≤ k3) ∧ Aside0 (Kd.R Kd.string 9 w' w.heap.size (fun _ => True) (.slice (some ad116) y111.length co15) y111) ∧ Aside0 (Kd.R k39 39 w' w.heap.size (fun _ => True) u6 x6_3) ∧ Aside0 (Below w.heap.size w w'))
                          case atStart => exact ⟨(x7_3), (rdOf ByteArray.empty y111 x7_3), (rdOf ByteArray.empty y111 x7_3), (by first | rfl | (simp; done) | (simp [*]; done)), (by first | rfl | (simp; done) | (simp [*]; done)), (by first | rfl | (simp; done) | (simp [*]; done)), H', ⟨Nat.le_refl _⟩, ⟨by (with_reducible repeat (first | apply Kd.R_alloc | apply Kd.R_drewN | apply Kd.R_drew)); exact HO_4.out⟩, ⟨by (with_reducible repeat (first | apply Kd.R_alloc | apply Kd.R_drewN | apply Kd.R_drew)); exact HO_6.out⟩, ⟨by repeat (first | (with_reducible first | exact HB.out | apply below_alloc | apply pw_below_drewN | apply below_drew1) | exact HB.out)⟩⟩
                          case round =>
                            clear H'
                            try clear c1
                            try clear p1
                            try clear q1
                            try clear hx1
                            try clear c2
                            try clear p2
                            try clear c3
                            try clear c3b0
                            try clear c3b1
                            try clear c4
                            try clear c4b0
                            try clear c4b1
                            try clear c6
                            try clear c6b0
                            try clear p6
                            try clear c7
                            try clear c7b0
                            try clear p8
                            try clear q8
                            try clear hx8
                            try clear c9
                            try clear p11
                            try clear q11
                            try clear hx11
                            try clear c12
                            try clear c12b0
                            try clear c12b1
                            try clear c13
                            try clear c13b0
                            try clear c13b1
                            try clear q16
                            try clear c17
                            try clear c17b0
                            try clear c18
                            try clear c18b0
                            try clear c19
                            try clear c20
                            try clear c21
                            try clear c21b0
                            try clear c22
                            try clear c22b0
                            try clear hx114_0
                            try clear hx116_0
                            try clear p1
                            try clear p11
                            try clear p114
                            try clear p116
                            try clear p2
                            try clear p6
                            try clear p8
                            try clear q1
                            try clear q11
                            try clear q114
                            try clear q116
                            try clear q16
                            try clear q8
                            obtain ⟨x7_4, x8_4, x9_4, rfl, rfl, rfl, HA, HK4, HO_4, HO_6, HB⟩ := hrel
                            cases gk with
                            | zero => exact absurd HA.out (by simp [crucibleref1_Lines.l2])
                            | succ k4 =>
                              have H := HA.out
                              clear HA
                              simp only [crucibleref1_Lines.l2] at H
                              replace H := Option.bind_eq_some_iff.mp H
                              obtain ⟨t117, A230, H⟩ := H
                              replace H : (if t117 = true then (if (wrap64 (x7_4 + 1)) = (y111.length : Int) then (some (([] : List (S39)), 600)) else (if 0 ≤ (wrap64 (x7_4 + 1)) then (if (wrap64 (x7_4 + 1)) < (y111.length : Int) then ((crucibleref1_front.f k4 (rdOf ByteArray.empty y111 (wrap64 (x7_4 + 1)))).bind fun t119 => (if 0 ≤ (wrap64 ((x8_4.size : Int) - 1)) then (if (wrap64 ((x8_4.size : Int) - 1)) ≤ (x8_4.size : Int) then (if (x8_4.extract 0 ((wrap64 ((x8_4.size : Int) - 1)) : Int).toNat).size + t119.size ≤ 9223372036854775807 then (crucibleref1_Lines.l2 k4 y111 x6_3 (wrap64 (x7_4 + 1)) ((x8_4.extract 0 ((wrap64 ((x8_4.size : Int) - 1)) : Int).toNat) ++ t119) t119) else (none)) else (none)) else (none))) else (none)) else (none))) else ((crucibleref1_trim.f k4 x8_4).bind fun t120 => (if t120.toList = ([] : List UInt8) then (crucibleref1_Lines.l1 k4 y111 x6_3 (wrap64 (x7_4 + 1))) else (if 0 < (t120.size : Int) then (if (bt t120 0) = 35 then (crucibleref1_Lines.l1 k4 y111 x6_3 (wrap64 (x7_4 + 1))) else (if 0 < (x8_4.size : Int) then (if x6_3.length < 5864062014805 then (crucibleref1_Lines.l1 k4 y111 (x6_3 ++ [(⟨((bt x8_4 0) == 32), t120⟩ : S39)]) (wrap64 (x7_4 + 1))) else (none)) else (none))) else (none))))) = some (r1, r2) := H
                              have A23 := Aside0.mk A230
                              clear A230
                              by_cases c24 : t117 = true
                              · subst c24
                                have H1 : (if (wrap64 (x7_4 + 1)) = (y111.length : Int) then (some (([] : List (S39)), 600)) else (if 0 ≤ (wrap64 (x7_4 + 1)) then (if (wrap64 (x7_4 + 1)) < (y111.length : Int) then ((crucibleref1_front.f k4 (rdOf ByteArray.empty y111 (wrap64 (x7_4 + 1)))).bind fun t119 => (if 0 ≤ (wrap64 ((x8_4.size : Int) - 1)) then (if (wrap64 ((x8_4.size : Int) - 1)) ≤ (x8_4.size : Int) then (if (x8_4.extract 0 ((wrap64 ((x8_4.size : Int) - 1)) : Int).toNat).size + t119.size ≤ 9223372036854775807 then (crucibleref1_Lines.l2 k4 y111 x6_3 (wrap64 (x7_4 + 1)) ((x8_4.extract 0 ((wrap64 ((x8_4.size : Int) - 1)) : Int).toNat) ++ t119) t119) else (none)) else (none)) else (none))) else (none)) else (none))) = some (r1, r2) := by rw [if_pos rfl] at H; exact H
                                clear H
                                have H := H1
                                clear H1
                                by_cases c25 : (wrap64 (x7_4 + 1)) = (y111.length : Int)
                                · rw [if_pos c25] at H
                                  have c25b0 : ((wrap64 (x7_4 + 1)) == (y111.length : Int)) = true := beq_iff_eq.mpr c25
                                  have c25b1 : ((wrap64 (x7_4 + 1)) != (y111.length : Int)) = false := bne_eq_false_iff_eq.mpr c25
                                  clear c25
                                  simp only [Option.some.injEq, Prod.mk.injEq] at H
                                  obtain ⟨rfl, rfl⟩ := H
                                  go_wp2_with (first | ((with_reducible refine gate_callee (f := 21) rfl ?_); refine goesL_ (some 58) rfl rfl Tryd.func21 (by kernel_rfl) rfl #[.string x9_4] rfl (by (try simp only [List.map_toArray, List.map_cons, List.map_nil]); first | done | rfl | (simp only [List.length_drop, List.length_take]; rfl)) ?_; (with_reducible refine (crucibleref1_goesOn.calls k4 x9_4 true _ A23.out).mono ?_); rintro e w' ⟨rfl, ⟨nd, rfl⟩⟩; refine ⟨_, rfl, ?_⟩))
                                  go_ret2
                                  exact ⟨_, by first | rfl | (simp [errW_none, errW_some] <;> rfl) | (simp only [← hji11]; first | rfl | (simp [errW_none, errW_some] <;> rfl)) | (simp [*, errW_none, errW_some] <;> rfl), by first | exact Kd.R_nil _ _ _ _ _ | exact Kd.N_nil _ _ _ _ _ | exact Kd.V_nil _ _ _ _ _ | exact Kd.Q_nil _ _ _ _ _ | exact Kd.S_nil _ _ _ _ _, by repeat (first | (with_reducible first | exact HB.out | apply below_alloc | apply pw_below_drewN | apply below_drew1) | exact HB.out)⟩
                                · rw [if_neg c25] at H
                                  have c25b0 : ((wrap64 (x7_4 + 1)) == (y111.length : Int)) = false := beq_eq_false_iff_ne.mpr c25
                                  have c25b1 : ((wrap64 (x7_4 + 1)) != (y111.length : Int)) = true := bne_iff_ne.mpr c25
                                  obtain ⟨ji26, hji26⟩ : ∃ j_ : Int, (wrap64 (x7_4 + 1)) = j_ := ⟨_, rfl⟩
                                  replace H : (if 0 ≤ (ji26) then (if (ji26) < (y111.length : Int) then ((crucibleref1_front.f k4 (rdOf ByteArray.empty y111 (ji26))).bind fun t119 => (if 0 ≤ (wrap64 ((x8_4.size : Int) - 1)) then (if (wrap64 ((x8_4.size : Int) - 1)) ≤ (x8_4.size : Int) then (if (x8_4.extract 0 ((wrap64 ((x8_4.size : Int) - 1)) : Int).toNat).size + t119.size ≤ 9223372036854775807 then (crucibleref1_Lines.l2 k4 y111 x6_3 ji26 ((x8_4.extract 0 ((wrap64 ((x8_4.size : Int) - 1)) : Int).toNat) ++ t119) t119) else (none)) else (none)) else (none))) else (none)) else (none)) = some (r1, r2) := by first | (rw [hji26] at H; exact H) | (simp only [hji26] at H ⊢; exact H)
                                  (try rw [hji26] at c25b0)
                                  (try rw [hji26] at c25b1)
                                  (try rw [hji26] at A23)
                                  have hji26w : (IntKind.i64.wrap (x7_4 + 1)) = ji26 := (i64_w _).trans hji26
                                  by_cases c27 : 0 ≤ (ji26)
                                  · rw [if_pos c27] at H
                                    have c27b0 : decide (0 ≤ (ji26)) = true := decide_eq_true c27
                                    clear c27
                                    by_cases c28 : (ji26) < (y111.length : Int)
                                    · rw [if_pos c28] at H
                                      have c28b0 : decide ((ji26) < (y111.length : Int)) = true := decide_eq_true c28
                                      clear c28
                                      replace H := Option.bind_eq_some_iff.mp H
                                      obtain ⟨t119, A290, H⟩ := H
                                      replace H : (if 0 ≤ (wrap64 ((x8_4.size : Int) - 1)) then (if (wrap64 ((x8_4.size : Int) - 1)) ≤ (x8_4.size : Int) then (if (x8_4.extract 0 ((wrap64 ((x8_4.size : Int) - 1)) : Int).toNat).size + t119.size ≤ 9223372036854775807 then (crucibleref1_Lines.l2 k4 y111 x6_3 ji26 ((x8_4.extract 0 ((wrap64 ((x8_4.size : Int) - 1)) : Int).toNat) ++ t119) t119) else (none)) else (none)) else (none)) = some (r1, r2) := H
                                      have A29 := Aside0.mk A290
                                      clear A290
                                      obtain ⟨ji30, hji30⟩ : ∃ j_ : Int, (wrap64 ((x8_4.size : Int) - 1)) = j_ := ⟨_, rfl⟩
                                      replace H : (if 0 ≤ (ji30) then (if (ji30) ≤ (x8_4.size : Int) then (if (x8_4.extract 0 ((ji30) : Int).toNat).size + t119.size ≤ 9223372036854775807 then (crucibleref1_Lines.l2 k4 y111 x6_3 ji26 ((x8_4.extract 0 ((ji30) : Int).toNat) ++ t119) t119) else (none)) else (none)) else (none)) = some (r1, r2) := by first | (rw [hji30] at H; exact H) | (simp only [hji30] at H ⊢; exact H)
                                      (try rw [hji30] at A23)
                                      (try rw [hji30] at A29)
                                      have hji30w : (IntKind.i64.wrap ((x8_4.size : Int) - 1)) = ji30 := (i64_w _).trans hji30
                                      by_cases c31 : 0 ≤ (ji30)
                                      · rw [if_pos c31] at H
                                        have c31b0 := eq_true c31
                                        have c31b1 : decide (0 ≤ (ji30)) = true := decide_eq_true c31
                                        clear c31
                                        by_cases c32 : (ji30) ≤ (x8_4.size : Int)
                                        · rw [if_pos c32] at H
                                          have c32b0 := eq_true c32
                                          have c32b1 : decide ((ji30) ≤ (x8_4.size : Int)) = true := decide_eq_true c32
                                          clear c32
                                          by_cases c33 : (x8_4.extract 0 ((ji30) : Int).toNat).size + t119.size ≤ 9223372036854775807
                                          · rw [if_pos c33] at H
                                            have c33b0 := eq_true c33
                                            have c33b1 : decide ((x8_4.extract 0 ((ji30) : Int).toNat).size + t119.size ≤ 9223372036854775807) = true := decide_eq_true c33
                                            try have c33b2 : (9223372036854775807 < (x8_4.extract 0 ((ji30) : Int).toNat).size + t119.size) = False := eq_false (Nat.not_lt.2 c33)
                                            have H' := Aside0.mk H
                                            clear H
                                            go_wp2_with (first | ((with_reducible refine gate_callee (f := 21) rfl ?_); refine goesL_ (some 58) rfl rfl Tryd.func21 (by kernel_rfl) rfl #[.string x9_4] rfl (by (try simp only [List.map_toArray, List.map_cons, List.map_nil]); first | done | rfl | (simp only [List.length_drop, List.length_take]; rfl)) ?_; (with_reducible refine (crucibleref1_goesOn.calls k4 x9_4 true _ A23.out).mono ?_); rintro e w' ⟨rfl, ⟨nd, rfl⟩⟩; refine ⟨_, rfl, ?_⟩; have p118 : 0 ≤ ((ji26) : Int) := of_decide_eq_true (by first | (with_reducible assumption) | assumption); have q118 : (ji26) < (y111.length : Int) := of_decide_eq_true (by first | (with_reducible assumption) | assumption); obtain ⟨ad118, e118, hx118_0⟩ := Kd.at_string (Kd.R_reads' HO_4.out).2.2 (ji26) p118 q118; obtain rfl : ad116 = ad118 := (by injection e118); replace p118 := eq_true p118; replace q118 := eq_true q118) | ((with_reducible refine gate_callee (f := 22) rfl ?_); refine goesL_ (some 70) rfl rfl Tryd.func22 (by kernel_rfl) rfl #[.string (rdOf ByteArray.empty y111 (ji26))] rfl (by (try simp only [List.map_toArray, List.map_cons, List.map_nil]); first | done | (simp only [hji26]; rfl) | rfl | (simp only [List.length_drop, List.length_take]; rfl)) ?_; (with_reducible refine (crucibleref1_front.calls k4 (rdOf ByteArray.empty y111 (ji26)) t119 _ A29.out).mono ?_); rintro e w' ⟨rfl, ⟨nd, rfl⟩⟩; refine ⟨_, rfl, ?_⟩))
                                            go_roundg k4
                                            case measure => have := HJ1.out; have := HK2.out; have := HK3.out; have := HK4.out; omega
                                            case rel => exact ⟨(ji26), ((x8_4.extract 0 ((ji30) : Int).toNat) ++ t119), (t119), (by first | rfl | (simp; done) | (simp only [← hji26] <;> (first | rfl | simp)) | (simp [*]; done)), (by first | rfl | (simp; done) | (simp only [← hji30] <;> (first | rfl | simp)) | (simp [*]; done)), (by first | rfl | (simp; done) | (simp [*]; done)), H', ⟨by have := HJ1.out; have := HK2.out; have := HK3.out; have := HK4.out; omega⟩, ⟨by (with_reducible repeat (first | apply Kd.R_alloc | apply Kd.R_drewN | apply Kd.R_drew)); exact HO_4.out⟩, ⟨by (with_reducible repeat (first | apply Kd.R_alloc | apply Kd.R_drewN | apply Kd.R_drew)); exact HO_6.out⟩, ⟨by repeat (first | (with_reducible first | exact HB.out | apply below_alloc | apply pw_below_drewN | apply below_drew1) | exact HB.out)⟩⟩
                                          · rw [if_neg c33] at H
                                            exact absurd H (by simp)
                                        · rw [if_neg c32] at H
                                          exact absurd H (by simp)
                                      · rw [if_neg c31] at H
                                        exact absurd H (by simp)
                                    · rw [if_neg c28] at H
                                      exact absurd H (by simp)
                                  · rw [if_neg c27] at H
                                    exact absurd H (by simp)
                              · replace c24 := Bool.eq_false_iff.mpr c24
                                subst c24
                                have H1 : ((crucibleref1_trim.f k4 x8_4).bind fun t120 => (if t120.toList = ([] : List UInt8) then (crucibleref1_Lines.l1 k4 y111 x6_3 (wrap64 (x7_4 + 1))) else (if 0 < (t120.size : Int) then (if (bt t120 0) = 35 then (crucibleref1_Lines.l1 k4 y111 x6_3 (wrap64 (x7_4 + 1))) else (if 0 < (x8_4.size : Int) then (if x6_3.length < 5864062014805 then (crucibleref1_Lines.l1 k4 y111 (x6_3 ++ [(⟨((bt x8_4 0) == 32), t120⟩ : S39)]) (wrap64 (x7_4 + 1))) else (none)) else (none))) else (none)))) = some (r1, r2) := by rw [if_neg (show ¬ (false = true) by decide)] at H; exact H
                                clear H
                                have H := H1
                                clear H1
                                replace H := Option.bind_eq_some_iff.mp H
                                obtain ⟨t120, A340, H⟩ := H
                                replace H : (if t120.toList = ([] : List UInt8) then (crucibleref1_Lines.l1 k4 y111 x6_3 (wrap64 (x7_4 + 1))) else (if 0 < (t120.size : Int) then (if (bt t120 0) = 35 then (crucibleref1_Lines.l1 k4 y111 x6_3 (wrap64 (x7_4 + 1))) else (if 0 < (x8_4.size : Int) then (if x6_3.length < 5864062014805 then (crucibleref1_Lines.l1 k4 y111 (x6_3 ++ [(⟨((bt x8_4 0) == 32), t120⟩ : S39)]) (wrap64 (x7_4 + 1))) else (none)) else (none))) else (none))) = some (r1, r2) := H
                                have A34 := Aside0.mk A340
                                clear A340
                                by_cases c35 : t120.toList = ([] : List UInt8)
                                · rw [if_pos c35] at H
                                  have c35b0 : (t120.toList == ([] : List UInt8)) = true := beq_iff_eq.mpr c35
                                  have c35b1 : (t120.toList != ([] : List UInt8)) = false := bne_eq_false_iff_eq.mpr c35
                                  clear c35
                                  have H' := Aside0.mk H
                                  clear H
                                  go_wp2_with (first | ((with_reducible refine gate_callee (f := 21) rfl ?_); refine goesL_ (some 58) rfl rfl Tryd.func21 (by kernel_rfl) rfl #[.string x9_4] rfl (by (try simp only [List.map_toArray, List.map_cons, List.map_nil]); first | done | rfl | (simp only [List.length_drop, List.length_take]; rfl)) ?_; (with_reducible refine (crucibleref1_goesOn.calls k4 x9_4 false _ A23.out).mono ?_); rintro e w' ⟨rfl, ⟨nd, rfl⟩⟩; refine ⟨_, rfl, ?_⟩) | ((with_reducible refine gate_callee (f := 23) rfl ?_); refine goesL_ (some 79) rfl rfl Tryd.func23 (by kernel_rfl) rfl #[.string x8_4] rfl (by (try simp only [List.map_toArray, List.map_cons, List.map_nil]); first | done | rfl | (simp only [List.length_drop, List.length_take]; rfl)) ?_; (with_reducible refine (crucibleref1_trim.calls k4 x8_4 t120 _ A34.out).mono ?_); rintro e w' ⟨rfl, ⟨nd, rfl⟩⟩; refine ⟨_, rfl, ?_⟩))
                                  go_roundg k4
                                  case measure => have := HJ1.out; have := HK2.out; have := HK3.out; have := HK4.out; omega
                                  case rel => exact ⟨(x6_3), (wrap64 (x7_4 + 1)), (by first | rfl | (simp; done) | (simp [*]; done)), H', ⟨by have := HJ1.out; have := HK2.out; have := HK3.out; have := HK4.out; omega⟩, ⟨by (with_reducible repeat (first | apply Kd.R_alloc | apply Kd.R_drewN | apply Kd.R_drew)); exact HO_4.out⟩, ⟨by (with_reducible repeat (first | apply Kd.R_alloc | apply Kd.R_drewN | apply Kd.R_drew)); exact HO_6.out⟩, ⟨by repeat (first | (with_reducible first | exact HB.out | apply below_alloc | apply pw_below_drewN | apply below_drew1) | exact HB.out)⟩⟩
                                · rw [if_neg c35] at H
                                  have c35b0 : (t120.toList == ([] : List UInt8)) = false := beq_eq_false_iff_ne.mpr c35
                                  have c35b1 : (t120.toList != ([] : List UInt8)) = true := bne_iff_ne.mpr c35
                                  by_cases c36 : 0 < (t120.size : Int)
                                  · rw [if_pos c36] at H
                                    have c36b0 : decide (0 < (t120.size : Int)) = true := decide_eq_true c36
                                    have c36b1 : decide (0 < t120.size) = true := decide_eq_true (by omega)
                                    clear c36
                                    by_cases c38 : (bt t120 0) = 35
                                    · rw [if_pos c38] at H
                                      have c38b0 : ((bt t120 0) == 35) = true := beq_iff_eq.mpr c38
                                      have c38b1 : ((bt t120 0) != 35) = false := bne_eq_false_iff_eq.mpr c38
                                      clear c38
                                      have H' := Aside0.mk H
                                      clear H
                                      go_wp2_with (first | ((with_reducible refine gate_callee (f := 21) rfl ?_); refine goesL_ (some 58) rfl rfl Tryd.func21 (by kernel_rfl) rfl #[.string x9_4] rfl (by (try simp only [List.map_toArray, List.map_cons, List.map_nil]); first | done | rfl | (simp only [List.length_drop, List.length_take]; rfl)) ?_; (with_reducible refine (crucibleref1_goesOn.calls k4 x9_4 false _ A23.out).mono ?_); rintro e w' ⟨rfl, ⟨nd, rfl⟩⟩; refine ⟨_, rfl, ?_⟩) | ((with_reducible refine gate_callee (f := 23) rfl ?_); refine goesL_ (some 79) rfl rfl Tryd.func23 (by kernel_rfl) rfl #[.string x8_4] rfl (by (try simp only [List.map_toArray, List.map_cons, List.map_nil]); first | done | rfl | (simp only [List.length_drop, List.length_take]; rfl)) ?_; (with_reducible refine (crucibleref1_trim.calls k4 x8_4 t120 _ A34.out).mono ?_); rintro e w' ⟨rfl, ⟨nd, rfl⟩⟩; refine ⟨_, rfl, ?_⟩; have p37 : 0 ≤ (0 : Int) := (by omega); have q37 : 0 < t120.size := (by have : (0 : Int) < (t120.size : Int) := of_decide_eq_true (by first | (with_reducible assumption) | assumption); omega); have hx37 : ∀ h : 0 < t120.size, ((t120[0]'h).toNat : Int) = bt t120 0 := bt_at t120 0; clear p37; have qi37 : (0 < (t120.size : Int)) = True := eq_true (of_decide_eq_true (by first | (with_reducible assumption) | assumption)); replace q37 := eq_true q37))
                                      go_roundg k4
                                      case measure => have := HJ1.out; have := HK2.out; have := HK3.out; have := HK4.out; omega
                                      case rel => exact ⟨(x6_3), (wrap64 (x7_4 + 1)), (by first | rfl | (simp; done) | (simp [*]; done)), H', ⟨by have := HJ1.out; have := HK2.out; have := HK3.out; have := HK4.out; omega⟩, ⟨by (with_reducible repeat (first | apply Kd.R_alloc | apply Kd.R_drewN | apply Kd.R_drew)); exact HO_4.out⟩, ⟨by (with_reducible repeat (first | apply Kd.R_alloc | apply Kd.R_drewN | apply Kd.R_drew)); exact HO_6.out⟩, ⟨by repeat (first | (with_reducible first | exact HB.out | apply below_alloc | apply pw_below_drewN | apply below_drew1) | exact HB.out)⟩⟩
                                    · rw [if_neg c38] at H
                                      have c38b0 : ((bt t120 0) == 35) = false := beq_eq_false_iff_ne.mpr c38
                                      have c38b1 : ((bt t120 0) != 35) = true := bne_iff_ne.mpr c38
                                      by_cases c39 : 0 < (x8_4.size : Int)
                                      · rw [if_pos c39] at H
                                        have c39b0 : decide (0 < (x8_4.size : Int)) = true := decide_eq_true c39
                                        have c39b1 : decide (0 < x8_4.size) = true := decide_eq_true (by omega)
                                        clear c39
                                        by_cases c41 : x6_3.length < 5864062014805
                                        · rw [if_pos c41] at H
                                          have LMc41 := Aside0.mk c41
                                          clear c41
                                          obtain ⟨y121, hy121⟩ : ∃ y_ : List (S39), y_ = (x6_3 ++ [(⟨((bt x8_4 0) == 32), t120⟩ : S39)]) := ⟨_, rfl⟩
                                          replace H : (crucibleref1_Lines.l1 k4 y111 y121 (wrap64 (x7_4 + 1))) = some (r1, r2) := by first | (rw [hy121]; with_reducible exact H) | (have H2_ := (Option.bind_some _ _).symm.trans H; rw [hy121]; with_reducible exact H2_) | (have H2_ := (Option.bind_some _ _).symm.trans H; with_reducible exact H2_) | with_reducible exact H | (rw [hy121]; exact H) | exact H
                                          have Ny121 := Aside0.mk hy121
                                          clear hy121
                                          have H' := Aside0.mk H
                                          clear H
                                          go_wp2_with (first | ((with_reducible refine gate_callee (f := 21) rfl ?_); refine goesL_ (some 58) rfl rfl Tryd.func21 (by kernel_rfl) rfl #[.string x9_4] rfl (by (try simp only [List.map_toArray, List.map_cons, List.map_nil]); first | done | rfl | (simp only [List.length_drop, List.length_take]; rfl)) ?_; (with_reducible refine (crucibleref1_goesOn.calls k4 x9_4 false _ A23.out).mono ?_); rintro e w' ⟨rfl, ⟨nd, rfl⟩⟩; refine ⟨_, rfl, ?_⟩) | ((with_reducible refine gate_callee (f := 23) rfl ?_); refine goesL_ (some 79) rfl rfl Tryd.func23 (by kernel_rfl) rfl #[.string x8_4] rfl (by (try simp only [List.map_toArray, List.map_cons, List.map_nil]); first | done | rfl | (simp only [List.length_drop, List.length_take]; rfl)) ?_; (with_reducible refine (crucibleref1_trim.calls k4 x8_4 t120 _ A34.out).mono ?_); rintro e w' ⟨rfl, ⟨nd, rfl⟩⟩; refine ⟨_, rfl, ?_⟩; have p37 : 0 ≤ (0 : Int) := (by omega); have q37 : 0 < t120.size := (by have : (0 : Int) < (t120.size : Int) := of_decide_eq_true (by first | (with_reducible assumption) | assumption); omega); have hx37 : ∀ h : 0 < t120.size, ((t120[0]'h).toNat : Int) = bt t120 0 := bt_at t120 0; clear p37; have qi37 : (0 < (t120.size : Int)) = True := eq_true (of_decide_eq_true (by first | (with_reducible assumption) | assumption)); replace q37 := eq_true q37; have p40 : 0 ≤ (0 : Int) := (by omega); have q40 : 0 < x8_4.size := (by have : (0 : Int) < (x8_4.size : Int) := of_decide_eq_true (by first | (with_reducible assumption) | assumption); omega); have hx40 : ∀ h : 0 < x8_4.size, ((x8_4[0]'h).toNat : Int) = bt x8_4 0 := bt_at x8_4 0; clear p40; have qi40 : (0 < (x8_4.size : Int)) = True := eq_true (of_decide_eq_true (by first | (with_reducible assumption) | assumption)); replace q40 := eq_true q40) | ((with_reducible refine gate_builtin (b := .append) (xs := #[.tmp 87, .tmp 93]) rfl ?_); (try (refine gate_guard (by rfl) ?_; dsimp only)); at_builtin; refine Kd.R_append k39 (w0 := w) w.heap.size rfl (.tmp 87) (.tmp 93) 22 39 (.agg #[(.bool false), (.string ⟨#[]⟩)]) 24 rfl Tryd.underlying22 info39 rfl (by decide) (by omega) u6 x6_3 (⟨((bt x8_4 0) == 32), t120⟩ : S39) [.bool ((bt x8_4 0) == 32), .string t120] (fun _ => True) (fun _ => False) rfl rfl ?aP (fun _ hk => hk.elim) ?aF ?aO ?aB ?aS ?aL ?_; (case aP => exact k39_mkM _ _ _ (⟨((bt x8_4 0) == 32), t120⟩ : S39)); (case aB => exact (by repeat (first | (with_reducible first | exact HB.out | apply below_alloc | apply pw_below_drewN | apply below_drew1) | exact HB.out))); (case aF => exact (fun _ _ => trivial)); (case aO => exact (by (with_reducible repeat (first | apply Kd.R_alloc | apply Kd.R_drewN | apply Kd.R_drew)); exact HO_6.out)); (case aS => exact (below_size (by repeat (first | (with_reducible first | exact HB.out | apply below_alloc | apply pw_below_drewN | apply below_drew1) | exact HB.out)))); (case aL => have := LMc41.out; omega); intro v122 w42 ho hb hg hat; rw [← Ny121.out] at ho; have n0_ := Aside0.mk (Kd.R_over' (by (with_reducible repeat (first | apply Kd.R_alloc | apply Kd.R_drewN | apply Kd.R_drew)); exact HO_4.out) (Kd.R_typed (by (with_reducible repeat (first | apply Kd.R_alloc | apply Kd.R_drewN | apply Kd.R_drew)); exact HO_6.out)) (by decide) hg); have n1_ := Aside0.mk (hb); have n2_ := Aside0.mk (ho); clear HO_4; clear HB; clear HO_6; have HO_4 := n0_; have HB := n1_; have HO123 := n2_; clear n0_ n1_ n2_; clear ho hb hg hat))
                                          go_roundg k4
                                          case measure => have := HJ1.out; have := HK2.out; have := HK3.out; have := HK4.out; omega
                                          case rel => exact ⟨(y121), (wrap64 (x7_4 + 1)), (by first | rfl | (simp; done) | (simp [*]; done)), H', ⟨by have := HJ1.out; have := HK2.out; have := HK3.out; have := HK4.out; omega⟩, ⟨by (with_reducible repeat (first | apply Kd.R_alloc | apply Kd.R_drewN | apply Kd.R_drew)); exact HO_4.out⟩, ⟨by (with_reducible repeat (first | apply Kd.R_alloc | apply Kd.R_drewN | apply Kd.R_drew)); exact HO123.out⟩, ⟨by repeat (first | (with_reducible first | exact HB.out | apply below_alloc | apply pw_below_drewN | apply below_drew1) | exact HB.out)⟩⟩
                                        · rw [if_neg c41] at H
                                          exact absurd H (by simp)
                                      · rw [if_neg c39] at H
                                        exact absurd H (by simp)
                                  · rw [if_neg c36] at H
                                    exact absurd H (by simp)
                        · rw [if_neg c22] at H
                          exact absurd H (by simp)
                      · rw [if_neg c21] at H
                        have c21b0 : decide (x7_3 < (y111.length : Int)) = false := decide_eq_false c21
                        clear c21
                        simp only [Option.some.injEq, Prod.mk.injEq] at H
                        obtain ⟨rfl, rfl⟩ := H
                        go_wp2
                        go_ret2
                        exact ⟨_, by first | rfl | (simp [errW_none, errW_some] <;> rfl) | (simp only [← hji11]; first | rfl | (simp [errW_none, errW_some] <;> rfl)) | (simp [*, errW_none, errW_some] <;> rfl), by (with_reducible repeat (first | apply Kd.R_alloc | apply Kd.R_drewN | apply Kd.R_drew)); exact HO_6.out, by repeat (first | (with_reducible first | exact HB.out | apply below_alloc | apply pw_below_drewN | apply below_drew1) | exact HB.out)⟩
          · rw [if_neg c13] at H
            exact absurd H (by simp)
        · rw [if_neg c12] at H
          exact absurd H (by simp)

end Go.Proofs.YtbkgcdjbkoeejaaDoor.Print
