-- By a program of ours (wip/tools/myprint.sh) out of the translation.
import Derived.Test.YtbkgcdjbkoeejaaP0
import Derived.Test.YtbkgcdjbkoeejaaPCrucibleref1ScopeMay
import Derived.Test.YtbkgcdjbkoeejaaPCrucibleref1GetVar
import Derived.Test.YtbkgcdjbkoeejaaQCut
namespace Go.Proofs.Ytbkgcdjbkoeejaa.Print
open Go.RowKit Go.Proofs.YtbkgcdjbkoeejaaW.PrintWords Go.Proofs.YtbkgcdjbkoeejaaW.PrintLast Go.Proofs.YtbkgcdjbkoeejaaW.PrintMore
attribute [local go_sem] max2_int min2_int max_two min_two max_three min_three max_four min_four   -- for this text's walks alone
set_option linter.unusedVariables false
set_option linter.unusedSimpArgs false

/-! ### crucibleref1_Eval: function 10 -/
mutual
def crucibleref1_Eval.j0 : Nat → List (S34) → List (S34) → List (S49) → Bool → Option (ByteArray × Int)
  | 0, _, _, _, _ => none
  | k + 1, x1, x2, x8, x29 => if x29 = true then (some ((⟨#[]⟩ : ByteArray), 500)) else (crucibleref1_Eval.l0 k x1 x2 x8 (⟨#[]⟩ : ByteArray) 0)
def crucibleref1_Eval.l0 : Nat → List (S34) → List (S34) → List (S49) → ByteArray → Int → Option (ByteArray × Int)
  | 0, _, _, _, _, _ => none
  | k + 1, x1, x2, x8, x10, x11 => if x11 < (x8.length : Int) then (if 0 ≤ x11 then (if (rd_T49 x8 x11).f0 = true then ((crucibleref1_GetVar.f k x1 ((rd_T49 x8 x11).f1)).bind fun t138 => (if t138.toList = ([] : List UInt8) then ((crucibleref1_GetVar.f k x2 ((rd_T49 x8 x11).f1)).bind fun t140 => (if x10.size + t140.size ≤ 9223372036854775807 then (crucibleref1_Eval.l0 k x1 x2 x8 (x10 ++ t140) (wrap64 (x11 + 1))) else (none))) else (if x10.size + t138.size ≤ 9223372036854775807 then (crucibleref1_Eval.l0 k x1 x2 x8 (x10 ++ t138) (wrap64 (x11 + 1))) else (none)))) else (if x10.size + ((rd_T49 x8 x11).f1).size ≤ 9223372036854775807 then (crucibleref1_Eval.l0 k x1 x2 x8 (x10 ++ ((rd_T49 x8 x11).f1)) (wrap64 (x11 + 1))) else (none))) else (none)) else (if (x10.size : Int) > 256 then (some ((⟨#[]⟩ : ByteArray), 501)) else (some (x10, 0)))
end
def crucibleref1_Eval.f (k : Nat) (a0 : ByteArray) (l1 : List (S34)) (l2 : List (S34)) : Option (ByteArray × Int) := (crucibleref1_Cut.f a0).bind fun bt129 => (if bt129.2 = 0 then ((crucibleref1_ScopeMay.f k l1).bind fun t133 => (if t133 = true then ((crucibleref1_ScopeMay.f k l2).bind fun t134 => (crucibleref1_Eval.j0 k l1 l2 bt129.1 (!t134))) else (crucibleref1_Eval.j0 k l1 l2 bt129.1 true))) else (crucibleref1_Eval.j0 k l1 l2 bt129.1 true))
theorem crucibleref1_Eval.mono_l : ∀ k, (∀ y0 y1 y2 y3, LeO (crucibleref1_Eval.j0 k y0 y1 y2 y3) (crucibleref1_Eval.j0 (k + 1) y0 y1 y2 y3)) ∧ (∀ y0 y1 y2 y3 y4, LeO (crucibleref1_Eval.l0 k y0 y1 y2 y3 y4) (crucibleref1_Eval.l0 (k + 1) y0 y1 y2 y3 y4))
  | 0 => ⟨fun _ _ _ _ r h => by simp [crucibleref1_Eval.j0] at h, fun _ _ _ _ _ r h => by simp [crucibleref1_Eval.l0] at h⟩
  | k + 1 => by
    obtain ⟨ih0, ih1⟩ := crucibleref1_Eval.mono_l k
    refine ⟨?_, ?_⟩
    · intro y0 y1 y2 y3
      unfold crucibleref1_Eval.j0
      repeat' first
      | (with_reducible exact ih0 _ _ _ _)
      | (with_reducible exact ih1 _ _ _ _ _)
      | (with_reducible exact crucibleref1_GetVar.mono _ _ _)
      | (with_reducible exact crucibleref1_ScopeMay.mono _ _)
      | (with_reducible exact LeO.refl _)
      | (with_reducible exact LeO.none _)
      | (with_reducible refine LeO.ite ?_ ?_)
      | (with_reducible refine LeO.bind ?_ (fun _ => ?_))
      | exact ih0 _ _ _ _
      | exact ih1 _ _ _ _ _
      | exact crucibleref1_GetVar.mono _ _ _
      | exact crucibleref1_ScopeMay.mono _ _
      | exact LeO.none _
      | refine LeO.ite ?_ ?_
      | refine LeO.bind ?_ (fun _ => ?_)
    · intro y0 y1 y2 y3 y4
      unfold crucibleref1_Eval.l0
      repeat' first
      | (with_reducible exact ih0 _ _ _ _)
      | (with_reducible exact ih1 _ _ _ _ _)
      | (with_reducible exact crucibleref1_GetVar.mono _ _ _)
      | (with_reducible exact crucibleref1_ScopeMay.mono _ _)
      | (with_reducible exact LeO.refl _)
      | (with_reducible exact LeO.none _)
      | (with_reducible refine LeO.ite ?_ ?_)
      | (with_reducible refine LeO.bind ?_ (fun _ => ?_))
      | exact ih0 _ _ _ _
      | exact ih1 _ _ _ _ _
      | exact crucibleref1_GetVar.mono _ _ _
      | exact crucibleref1_ScopeMay.mono _ _
      | exact LeO.none _
      | refine LeO.ite ?_ ?_
      | refine LeO.bind ?_ (fun _ => ?_)
theorem crucibleref1_Eval.mono : ∀ a0 a1 a2 k, LeO (crucibleref1_Eval.f k a0 a1 a2) (crucibleref1_Eval.f (k + 1) a0 a1 a2) := by
  intro a0 a1 a2 k
  obtain ⟨ih0, ih1⟩ := crucibleref1_Eval.mono_l k
  unfold crucibleref1_Eval.f
  repeat' first
      | (with_reducible exact ih0 _ _ _ _)
      | (with_reducible exact ih1 _ _ _ _ _)
      | (with_reducible exact crucibleref1_GetVar.mono _ _ _)
      | (with_reducible exact crucibleref1_ScopeMay.mono _ _)
      | (with_reducible exact LeO.refl _)
      | (with_reducible exact LeO.none _)
      | (with_reducible refine LeO.ite ?_ ?_)
      | (with_reducible refine LeO.bind ?_ (fun _ => ?_))
      | exact ih0 _ _ _ _
      | exact ih1 _ _ _ _ _
      | exact crucibleref1_GetVar.mono _ _ _
      | exact crucibleref1_ScopeMay.mono _ _
      | exact LeO.none _
      | refine LeO.ite ?_ ?_
      | refine LeO.bind ?_ (fun _ => ?_)
set_option maxHeartbeats 8000000 in
set_option maxRecDepth 100000 in
theorem crucibleref1_Eval.calls (k : Nat) (a0 : ByteArray) (A1 : Option Addr) (c1 : Nat) (l1 : List (S34)) (A2 : Option Addr) (c2 : Nat) (l2 : List (S34)) (r1 : ByteArray) (r2 : Int) (w : World) (hr1 : Kd.C k34 w A1 l1.length l1) (hc1 : l1.length ≤ c1) (hr2 : Kd.C k34 w A2 l2.length l2) (hc2 : l2.length ≤ c2) (h : crucibleref1_Eval.f k a0 l1 l2 = some (r1, r2)) :
    Calls Try.prog 10 #[.string a0, .slice A1 l1.length c1, .slice A2 l2.length c2] w fun e w' => e = .returned (.tuple #[.string r1, .int .i64 r2]) ∧ Below w.heap.size w w' := by
  have HR1 := Aside0.mk hr1
  have HC1 := Aside0.mk hc1
  clear hr1 hc1
  have HR2 := Aside0.mk hr2
  have HC2 := Aside0.mk hc2
  clear hr2 hc2
  have HB := Aside0.mk (Below.refl w.heap.size w)
  have H : ((crucibleref1_Cut.f a0).bind fun bt129 => (if bt129.2 = 0 then ((crucibleref1_ScopeMay.f k l1).bind fun t133 => (if t133 = true then ((crucibleref1_ScopeMay.f k l2).bind fun t134 => (crucibleref1_Eval.j0 k l1 l2 bt129.1 (!t134))) else (crucibleref1_Eval.j0 k l1 l2 bt129.1 true))) else (crucibleref1_Eval.j0 k l1 l2 bt129.1 true))) = some (r1, r2) := h
  clear h
  replace H := Option.bind_eq_some_iff.mp H
  obtain ⟨⟨t129, t130⟩, A40, H⟩ := H
  replace H : (if t130 = 0 then ((crucibleref1_ScopeMay.f k l1).bind fun t133 => (if t133 = true then ((crucibleref1_ScopeMay.f k l2).bind fun t134 => (crucibleref1_Eval.j0 k l1 l2 t129 (!t134))) else (crucibleref1_Eval.j0 k l1 l2 t129 true))) else (crucibleref1_Eval.j0 k l1 l2 t129 true)) = some (r1, r2) := H
  have A4 := Aside0.mk A40
  clear A40
  have HC5 := Aside0.mk H
  clear H
  go_enter Try.func10, Try.ntmps10
  go_upto_region 2 with (first | ((with_reducible refine gate_callee (f := 25) rfl ?_); refine goesL_ (some 15) rfl rfl Try.func25 (by kernel_rfl) rfl #[.string a0] rfl (by (try simp only [List.map_toArray, List.map_cons, List.map_nil]); first | done | rfl | (simp only [List.length_drop, List.length_take]; rfl)) ?_; (with_reducible refine (crucibleref1_Cut.calls a0 t129 t130 _ A4.out).mono ?_); rintro e w6 ⟨v131, rfl, ho0, hb⟩; refine ⟨_, rfl, ?_⟩; have n0_ := Aside0.mk (Kd.R_lower ho0 (below_size (by repeat (first | (with_reducible first | exact HB.out | apply below_alloc | apply pw_below_drewN | apply below_drew1) | exact HB.out)))); have n1_ := Aside0.mk (below_step (by repeat (first | (with_reducible first | exact HB.out | apply below_alloc | apply pw_below_drewN | apply below_drew1) | exact HB.out)) hb); clear HB; have HO132 := n0_; have HB := n1_; clear n0_ n1_; (try clear hb); (try clear hb2); (try clear hk); (try clear hi); (try clear ho0)))
  (try simp only [Act.put, List.setIfInBounds_toArray, List.set_cons_zero, List.set_cons_succ])
  go_cut [29] (fun v29 wc => ∃ (kq : Nat) (x29_4 : Bool), v29 = .bool x29_4 ∧ Aside0 (crucibleref1_Eval.j0 kq l1 l2 t129 x29_4 = some (r1, r2)) ∧ Aside0 (kq ≤ k) ∧ Aside0 (Kd.R k49 49 wc w.heap.size (fun _ => True) v131 t129) ∧ Aside0 (Below w.heap.size w wc))
  case first =>
    have H := HC5.out
    clear HC5
    by_cases c7 : t130 = 0
    · rw [if_pos c7] at H
      have c7b0 : (t130 == 0) = true := beq_iff_eq.mpr c7
      have c7b1 : (t130 != 0) = false := bne_eq_false_iff_eq.mpr c7
      clear c7
      (first | rw [c7b0] | (simp only [i64_w, i32_w]; rw [c7b0]) | skip)
      replace H := Option.bind_eq_some_iff.mp H
      obtain ⟨t133, A80, H⟩ := H
      replace H : (if t133 = true then ((crucibleref1_ScopeMay.f k l2).bind fun t134 => (crucibleref1_Eval.j0 k l1 l2 t129 (!t134))) else (crucibleref1_Eval.j0 k l1 l2 t129 true)) = some (r1, r2) := H
      have A8 := Aside0.mk A80
      clear A80
      by_cases c9 : t133 = true
      · subst c9
        have H1 : ((crucibleref1_ScopeMay.f k l2).bind fun t134 => (crucibleref1_Eval.j0 k l1 l2 t129 (!t134))) = some (r1, r2) := by rw [if_pos rfl] at H; exact H
        clear H
        have H := H1
        clear H1
        replace H := Option.bind_eq_some_iff.mp H
        obtain ⟨t134, A100, H⟩ := H
        replace H : (crucibleref1_Eval.j0 k l1 l2 t129 (!t134)) = some (r1, r2) := H
        have A10 := Aside0.mk A100
        clear A100
        have H' := Aside0.mk H
        clear H
        go_wp2_with (first | (go_at_call 15; (with_reducible refine (crucibleref1_ScopeMay.calls k _ _ l1 true _ ?side1 ?side2 A8.out).mono ?_); (case side1 => repeat (first | exact (Kd.C_below HR1.out HB.out) | (with_reducible refine Kd.C_alloc ?_ _) | (with_reducible refine Kd.C_drewN ?_ _) | (with_reducible refine Kd.C_drew ?_))); (case side2 => exact HC1.out); rintro e w' ⟨rfl, ⟨nd, rfl⟩⟩) | (go_at_call 15; (with_reducible refine (crucibleref1_ScopeMay.calls k _ _ l2 t134 _ ?side1 ?side2 A10.out).mono ?_); (case side1 => repeat (first | exact (Kd.C_below HR2.out (by repeat (first | (with_reducible first | exact HB.out | apply below_alloc | apply pw_below_drewN | apply below_drew1) | exact HB.out))) | (with_reducible refine Kd.C_alloc ?_ _) | (with_reducible refine Kd.C_drewN ?_ _) | (with_reducible refine Kd.C_drew ?_))); (case side2 => exact HC2.out); rintro e w' ⟨rfl, ⟨nd, rfl⟩⟩))
        go_meet
        case rel => exact ⟨_, (!t134), (by first | rfl | (simp; done) | (simp [*]; done)), H', ⟨by first | omega | exact Nat.le_refl _⟩, ⟨by (with_reducible repeat (first | apply Kd.R_alloc | apply Kd.R_drewN | apply Kd.R_drew)); exact HO132.out⟩, ⟨by repeat (first | (with_reducible first | exact HB.out | apply below_alloc | apply pw_below_drewN | apply below_drew1) | exact HB.out)⟩⟩
      · replace c9 := Bool.eq_false_iff.mpr c9
        subst c9
        have H1 : (crucibleref1_Eval.j0 k l1 l2 t129 true) = some (r1, r2) := by rw [if_neg (show ¬ (false = true) by decide)] at H; exact H
        clear H
        have H := H1
        clear H1
        have H' := Aside0.mk H
        clear H
        go_wp2_with (first | (go_at_call 15; (with_reducible refine (crucibleref1_ScopeMay.calls k _ _ l1 false _ ?side1 ?side2 A8.out).mono ?_); (case side1 => repeat (first | exact (Kd.C_below HR1.out HB.out) | (with_reducible refine Kd.C_alloc ?_ _) | (with_reducible refine Kd.C_drewN ?_ _) | (with_reducible refine Kd.C_drew ?_))); (case side2 => exact HC1.out); rintro e w' ⟨rfl, ⟨nd, rfl⟩⟩))
        go_meet
        case rel => exact ⟨_, (true), (by first | rfl | (simp; done) | (simp [*]; done)), H', ⟨by first | omega | exact Nat.le_refl _⟩, ⟨by (with_reducible repeat (first | apply Kd.R_alloc | apply Kd.R_drewN | apply Kd.R_drew)); exact HO132.out⟩, ⟨by repeat (first | (with_reducible first | exact HB.out | apply below_alloc | apply pw_below_drewN | apply below_drew1) | exact HB.out)⟩⟩
    · rw [if_neg c7] at H
      have c7b0 : (t130 == 0) = false := beq_eq_false_iff_ne.mpr c7
      have c7b1 : (t130 != 0) = true := bne_iff_ne.mpr c7
      (first | rw [c7b0] | (simp only [i64_w, i32_w]; rw [c7b0]) | skip)
      have H' := Aside0.mk H
      clear H
      go_wp2
      go_meet
      case rel => exact ⟨_, (true), (by first | rfl | (simp; done) | (simp [*]; done)), H', ⟨by first | omega | exact Nat.le_refl _⟩, ⟨by (with_reducible repeat (first | apply Kd.R_alloc | apply Kd.R_drewN | apply Kd.R_drew)); exact HO132.out⟩, ⟨by repeat (first | (with_reducible first | exact HB.out | apply below_alloc | apply pw_below_drewN | apply below_drew1) | exact HB.out)⟩⟩
  case rest =>
    clear HC5
    try clear c1
    try clear c2
    try clear p2
    try clear c7
    try clear c7b0
    try clear c7b1
    try clear c9
    try clear c10
    obtain ⟨kq, x29_4, rfl, HA, HJ4, HO_8, HB⟩ := hcut
    cases kq with
    | zero => exact absurd HA.out (by simp [crucibleref1_Eval.j0])
    | succ kj4 =>
      have H := HA.out
      clear HA
      simp only [crucibleref1_Eval.j0] at H
      by_cases c11 : x29_4 = true
      · subst c11
        have H1 : (some ((⟨#[]⟩ : ByteArray), 500)) = some (r1, r2) := by rw [if_pos rfl] at H; exact H
        clear H
        have H := H1
        clear H1
        simp only [Option.some.injEq, Prod.mk.injEq] at H
        obtain ⟨rfl, rfl⟩ := H
        go_wp2
        go_ret2
        exact ⟨by first | rfl | (simp [errW_none, errW_some] <;> rfl) | (simp [*, errW_none, errW_some] <;> rfl), by repeat (first | (with_reducible first | exact HB.out | apply below_alloc | apply pw_below_drewN | apply below_drew1) | exact HB.out)⟩
      · replace c11 := Bool.eq_false_iff.mpr c11
        subst c11
        have H1 : (crucibleref1_Eval.l0 kj4 l1 l2 t129 (⟨#[]⟩ : ByteArray) 0) = some (r1, r2) := by rw [if_neg (show ¬ (false = true) by decide)] at H; exact H
        clear H
        have H := H1
        clear H1
        have H' := Aside0.mk H
        clear H
        go_wp2
        go_loopg [10, 11] kj4 (fun kq v10 v11 w' => ∃ (x10_2 : ByteArray) (x11_2 : Int), v10 = .string x10_2 ∧ v11 = .int .i64 x11_2 ∧ Aside0 (crucibleref1_Eval.l0 kq l1 l2 t129 x10_2 x11_2 = some (r1, r2)) ∧ Aside0 (kq ≤ kj4) ∧ Aside0 (Kd.R k49 49 w' w.heap.size (fun _ => True) v131 t129) ∧ Aside0 (Below w.heap.size w w'))
        case atStart => exact ⟨((⟨#[]⟩ : ByteArray)), (0), (by first | rfl | (simp; done) | (simp [*]; done)), (by first | rfl | (simp; done) | (simp [*]; done)), H', ⟨Nat.le_refl _⟩, ⟨by (with_reducible repeat (first | apply Kd.R_alloc | apply Kd.R_drewN | apply Kd.R_drew)); exact HO_8.out⟩, ⟨by repeat (first | (with_reducible first | exact HB.out | apply below_alloc | apply pw_below_drewN | apply below_drew1) | exact HB.out)⟩⟩
        case round =>
          clear H'
          try clear c1
          try clear c2
          try clear p2
          try clear c7
          try clear c7b0
          try clear c7b1
          try clear c9
          try clear c10
          try clear c11
          try clear p2
          obtain ⟨x10_2, x11_2, rfl, rfl, HA, HK2, HO_8, HB⟩ := hrel
          cases gk with
          | zero => exact absurd HA.out (by simp [crucibleref1_Eval.l0])
          | succ k2 =>
            have H := HA.out
            clear HA
            simp only [crucibleref1_Eval.l0] at H
            by_cases c12 : x11_2 < (t129.length : Int)
            · rw [if_pos c12] at H
              have c12b0 : decide (x11_2 < (t129.length : Int)) = true := decide_eq_true c12
              clear c12
              by_cases c13 : 0 ≤ x11_2
              · rw [if_pos c13] at H
                have c13b0 : decide (0 ≤ x11_2) = true := decide_eq_true c13
                clear c13
                obtain ⟨bq14, hbq14⟩ : ∃ b_ : Bool, b_ = ((rd_T49 t129 x11_2).f0) := ⟨_, rfl⟩
                replace H : (if bq14 = true then ((crucibleref1_GetVar.f k2 l1 ((rd_T49 t129 x11_2).f1)).bind fun t138 => (if t138.toList = ([] : List UInt8) then ((crucibleref1_GetVar.f k2 l2 ((rd_T49 t129 x11_2).f1)).bind fun t140 => (if x10_2.size + t140.size ≤ 9223372036854775807 then (crucibleref1_Eval.l0 k2 l1 l2 t129 (x10_2 ++ t140) (wrap64 (x11_2 + 1))) else (none))) else (if x10_2.size + t138.size ≤ 9223372036854775807 then (crucibleref1_Eval.l0 k2 l1 l2 t129 (x10_2 ++ t138) (wrap64 (x11_2 + 1))) else (none)))) else (if x10_2.size + ((rd_T49 t129 x11_2).f1).size ≤ 9223372036854775807 then (crucibleref1_Eval.l0 k2 l1 l2 t129 (x10_2 ++ ((rd_T49 t129 x11_2).f1)) (wrap64 (x11_2 + 1))) else (none))) = some (r1, r2) := by rw [← hbq14] at H; exact H
                have Nbq14 := Aside0.mk hbq14
                clear hbq14
                by_cases c15 : bq14 = true
                · subst c15
                  have H1 : ((crucibleref1_GetVar.f k2 l1 ((rd_T49 t129 x11_2).f1)).bind fun t138 => (if t138.toList = ([] : List UInt8) then ((crucibleref1_GetVar.f k2 l2 ((rd_T49 t129 x11_2).f1)).bind fun t140 => (if x10_2.size + t140.size ≤ 9223372036854775807 then (crucibleref1_Eval.l0 k2 l1 l2 t129 (x10_2 ++ t140) (wrap64 (x11_2 + 1))) else (none))) else (if x10_2.size + t138.size ≤ 9223372036854775807 then (crucibleref1_Eval.l0 k2 l1 l2 t129 (x10_2 ++ t138) (wrap64 (x11_2 + 1))) else (none)))) = some (r1, r2) := by rw [if_pos rfl] at H; exact H
                  clear H
                  have H := H1
                  clear H1
                  replace H := Option.bind_eq_some_iff.mp H
                  obtain ⟨t138, A160, H⟩ := H
                  replace H : (if t138.toList = ([] : List UInt8) then ((crucibleref1_GetVar.f k2 l2 ((rd_T49 t129 x11_2).f1)).bind fun t140 => (if x10_2.size + t140.size ≤ 9223372036854775807 then (crucibleref1_Eval.l0 k2 l1 l2 t129 (x10_2 ++ t140) (wrap64 (x11_2 + 1))) else (none))) else (if x10_2.size + t138.size ≤ 9223372036854775807 then (crucibleref1_Eval.l0 k2 l1 l2 t129 (x10_2 ++ t138) (wrap64 (x11_2 + 1))) else (none))) = some (r1, r2) := H
                  have A16 := Aside0.mk A160
                  clear A160
                  by_cases c17 : t138.toList = ([] : List UInt8)
                  · rw [if_pos c17] at H
                    have c17b0 : (t138.toList == ([] : List UInt8)) = true := beq_iff_eq.mpr c17
                    have c17b1 : (t138.toList != ([] : List UInt8)) = false := bne_eq_false_iff_eq.mpr c17
                    clear c17
                    replace H := Option.bind_eq_some_iff.mp H
                    obtain ⟨t140, A180, H⟩ := H
                    replace H : (if x10_2.size + t140.size ≤ 9223372036854775807 then (crucibleref1_Eval.l0 k2 l1 l2 t129 (x10_2 ++ t140) (wrap64 (x11_2 + 1))) else (none)) = some (r1, r2) := H
                    have A18 := Aside0.mk A180
                    clear A180
                    by_cases c19 : x10_2.size + t140.size ≤ 9223372036854775807
                    · rw [if_pos c19] at H
                      have c19b0 := eq_true c19
                      have c19b1 : decide (x10_2.size + t140.size ≤ 9223372036854775807) = true := decide_eq_true c19
                      try have c19b2 : (9223372036854775807 < x10_2.size + t140.size) = False := eq_false (Nat.not_lt.2 c19)
                      have H' := Aside0.mk H
                      clear H
                      obtain ⟨Ao20, co20, eo20⟩ := Kd.R_slice HO_8.out
                      subst eo20
                      have p135 : 0 ≤ (x11_2 : Int) := of_decide_eq_true (by first | (with_reducible assumption) | assumption)
                      have q135 : x11_2 < (t129.length : Int) := of_decide_eq_true (by first | (with_reducible assumption) | assumption)
                      obtain ⟨ad135, e135, hx135_0, hx135_1⟩ := at_T49 (Kd.R_reads' HO_8.out).2.2 x11_2 p135 q135
                      (try rw [← Nbq14.out] at hx135_0)
                      cases e135
                      replace p135 := eq_true p135
                      replace q135 := eq_true q135
                      have p136 : 0 ≤ (x11_2 : Int) := of_decide_eq_true (by first | (with_reducible assumption) | assumption)
                      have q136 : x11_2 < (t129.length : Int) := of_decide_eq_true (by first | (with_reducible assumption) | assumption)
                      obtain ⟨ad136, e136, hx136_0, hx136_1⟩ := at_T49 (Kd.R_reads' HO_8.out).2.2 x11_2 p136 q136
                      (try rw [← Nbq14.out] at hx136_0)
                      obtain rfl : ad135 = ad136 := (by injection e136)
                      replace p136 := eq_true p136
                      replace q136 := eq_true q136
                      have p137 : 0 ≤ (x11_2 : Int) := of_decide_eq_true (by first | (with_reducible assumption) | assumption)
                      have q137 : x11_2 < (t129.length : Int) := of_decide_eq_true (by first | (with_reducible assumption) | assumption)
                      obtain ⟨ad137, e137, hx137_0, hx137_1⟩ := at_T49 (Kd.R_reads' HO_8.out).2.2 x11_2 p137 q137
                      (try rw [← Nbq14.out] at hx137_0)
                      obtain rfl : ad135 = ad137 := (by injection e137)
                      replace p137 := eq_true p137
                      replace q137 := eq_true q137
                      go_wp2_with (first | ((with_reducible refine gate_callee (f := 26) rfl ?_); refine goesL_ (some 52) rfl rfl Try.func26 (by kernel_rfl) rfl #[.slice A1 l1.length c1, .string ((rd_T49 t129 x11_2).f1)] rfl (by (try simp only [List.map_toArray, List.map_cons, List.map_nil]); first | done | rfl | (simp only [List.length_drop, List.length_take]; rfl)) ?_; (with_reducible refine (crucibleref1_GetVar.calls k2 _ _ l1 ((rd_T49 t129 x11_2).f1) t138 _ ?side1 ?side2 A16.out).mono ?_); (case side1 => repeat (first | exact (Kd.C_below HR1.out HB.out) | (with_reducible refine Kd.C_alloc ?_ _) | (with_reducible refine Kd.C_drewN ?_ _) | (with_reducible refine Kd.C_drew ?_))); (case side2 => exact HC1.out); rintro e w' ⟨rfl, ⟨nd, rfl⟩⟩; refine ⟨_, rfl, ?_⟩; have p139 : 0 ≤ (x11_2 : Int) := of_decide_eq_true (by first | (with_reducible assumption) | assumption); have q139 : x11_2 < (t129.length : Int) := of_decide_eq_true (by first | (with_reducible assumption) | assumption); obtain ⟨ad139, e139, hx139_0, hx139_1⟩ := at_T49 (Kd.R_reads' HO_8.out).2.2 x11_2 p139 q139; (try rw [← Nbq14.out] at hx139_0); obtain rfl : ad135 = ad139 := (by injection e139); replace p139 := eq_true p139; replace q139 := eq_true q139) | ((with_reducible refine gate_callee (f := 26) rfl ?_); refine goesL_ (some 61) rfl rfl Try.func26 (by kernel_rfl) rfl #[.slice A2 l2.length c2, .string ((rd_T49 t129 x11_2).f1)] rfl (by (try simp only [List.map_toArray, List.map_cons, List.map_nil]); first | done | rfl | (simp only [List.length_drop, List.length_take]; rfl)) ?_; (with_reducible refine (crucibleref1_GetVar.calls k2 _ _ l2 ((rd_T49 t129 x11_2).f1) t140 _ ?side1 ?side2 A18.out).mono ?_); (case side1 => repeat (first | exact (Kd.C_below HR2.out (by repeat (first | (with_reducible first | exact HB.out | apply below_alloc | apply pw_below_drewN | apply below_drew1) | exact HB.out))) | (with_reducible refine Kd.C_alloc ?_ _) | (with_reducible refine Kd.C_drewN ?_ _) | (with_reducible refine Kd.C_drew ?_))); (case side2 => exact HC2.out); rintro e w' ⟨rfl, ⟨nd, rfl⟩⟩; refine ⟨_, rfl, ?_⟩))
                      go_roundg k2
                      case measure => have := HJ4.out; have := HK2.out; omega
                      case rel => exact ⟨(x10_2 ++ t140), (wrap64 (x11_2 + 1)), (by first | rfl | (simp; done) | (simp [*]; done)), (by first | rfl | (simp; done) | (simp [*]; done)), H', ⟨by have := HJ4.out; have := HK2.out; omega⟩, ⟨by (with_reducible repeat (first | apply Kd.R_alloc | apply Kd.R_drewN | apply Kd.R_drew)); exact HO_8.out⟩, ⟨by repeat (first | (with_reducible first | exact HB.out | apply below_alloc | apply pw_below_drewN | apply below_drew1) | exact HB.out)⟩⟩
                    · rw [if_neg c19] at H
                      exact absurd H (by simp)
                  · rw [if_neg c17] at H
                    have c17b0 : (t138.toList == ([] : List UInt8)) = false := beq_eq_false_iff_ne.mpr c17
                    have c17b1 : (t138.toList != ([] : List UInt8)) = true := bne_iff_ne.mpr c17
                    by_cases c21 : x10_2.size + t138.size ≤ 9223372036854775807
                    · rw [if_pos c21] at H
                      have c21b0 := eq_true c21
                      have c21b1 : decide (x10_2.size + t138.size ≤ 9223372036854775807) = true := decide_eq_true c21
                      try have c21b2 : (9223372036854775807 < x10_2.size + t138.size) = False := eq_false (Nat.not_lt.2 c21)
                      have H' := Aside0.mk H
                      clear H
                      obtain ⟨Ao22, co22, eo22⟩ := Kd.R_slice HO_8.out
                      subst eo22
                      have p135 : 0 ≤ (x11_2 : Int) := of_decide_eq_true (by first | (with_reducible assumption) | assumption)
                      have q135 : x11_2 < (t129.length : Int) := of_decide_eq_true (by first | (with_reducible assumption) | assumption)
                      obtain ⟨ad135, e135, hx135_0, hx135_1⟩ := at_T49 (Kd.R_reads' HO_8.out).2.2 x11_2 p135 q135
                      (try rw [← Nbq14.out] at hx135_0)
                      cases e135
                      replace p135 := eq_true p135
                      replace q135 := eq_true q135
                      have p136 : 0 ≤ (x11_2 : Int) := of_decide_eq_true (by first | (with_reducible assumption) | assumption)
                      have q136 : x11_2 < (t129.length : Int) := of_decide_eq_true (by first | (with_reducible assumption) | assumption)
                      obtain ⟨ad136, e136, hx136_0, hx136_1⟩ := at_T49 (Kd.R_reads' HO_8.out).2.2 x11_2 p136 q136
                      (try rw [← Nbq14.out] at hx136_0)
                      obtain rfl : ad135 = ad136 := (by injection e136)
                      replace p136 := eq_true p136
                      replace q136 := eq_true q136
                      have p137 : 0 ≤ (x11_2 : Int) := of_decide_eq_true (by first | (with_reducible assumption) | assumption)
                      have q137 : x11_2 < (t129.length : Int) := of_decide_eq_true (by first | (with_reducible assumption) | assumption)
                      obtain ⟨ad137, e137, hx137_0, hx137_1⟩ := at_T49 (Kd.R_reads' HO_8.out).2.2 x11_2 p137 q137
                      (try rw [← Nbq14.out] at hx137_0)
                      obtain rfl : ad135 = ad137 := (by injection e137)
                      replace p137 := eq_true p137
                      replace q137 := eq_true q137
                      go_wp2_with (first | ((with_reducible refine gate_callee (f := 26) rfl ?_); refine goesL_ (some 52) rfl rfl Try.func26 (by kernel_rfl) rfl #[.slice A1 l1.length c1, .string ((rd_T49 t129 x11_2).f1)] rfl (by (try simp only [List.map_toArray, List.map_cons, List.map_nil]); first | done | rfl | (simp only [List.length_drop, List.length_take]; rfl)) ?_; (with_reducible refine (crucibleref1_GetVar.calls k2 _ _ l1 ((rd_T49 t129 x11_2).f1) t138 _ ?side1 ?side2 A16.out).mono ?_); (case side1 => repeat (first | exact (Kd.C_below HR1.out HB.out) | (with_reducible refine Kd.C_alloc ?_ _) | (with_reducible refine Kd.C_drewN ?_ _) | (with_reducible refine Kd.C_drew ?_))); (case side2 => exact HC1.out); rintro e w' ⟨rfl, ⟨nd, rfl⟩⟩; refine ⟨_, rfl, ?_⟩))
                      go_roundg k2
                      case measure => have := HJ4.out; have := HK2.out; omega
                      case rel => exact ⟨(x10_2 ++ t138), (wrap64 (x11_2 + 1)), (by first | rfl | (simp; done) | (simp [*]; done)), (by first | rfl | (simp; done) | (simp [*]; done)), H', ⟨by have := HJ4.out; have := HK2.out; omega⟩, ⟨by (with_reducible repeat (first | apply Kd.R_alloc | apply Kd.R_drewN | apply Kd.R_drew)); exact HO_8.out⟩, ⟨by repeat (first | (with_reducible first | exact HB.out | apply below_alloc | apply pw_below_drewN | apply below_drew1) | exact HB.out)⟩⟩
                    · rw [if_neg c21] at H
                      exact absurd H (by simp)
                · replace c15 := Bool.eq_false_iff.mpr c15
                  subst c15
                  have H1 : (if x10_2.size + ((rd_T49 t129 x11_2).f1).size ≤ 9223372036854775807 then (crucibleref1_Eval.l0 k2 l1 l2 t129 (x10_2 ++ ((rd_T49 t129 x11_2).f1)) (wrap64 (x11_2 + 1))) else (none)) = some (r1, r2) := by rw [if_neg (show ¬ (false = true) by decide)] at H; exact H
                  clear H
                  have H := H1
                  clear H1
                  by_cases c23 : x10_2.size + ((rd_T49 t129 x11_2).f1).size ≤ 9223372036854775807
                  · rw [if_pos c23] at H
                    have c23b0 := eq_true c23
                    have c23b1 : decide (x10_2.size + ((rd_T49 t129 x11_2).f1).size ≤ 9223372036854775807) = true := decide_eq_true c23
                    try have c23b2 : (9223372036854775807 < x10_2.size + ((rd_T49 t129 x11_2).f1).size) = False := eq_false (Nat.not_lt.2 c23)
                    have H' := Aside0.mk H
                    clear H
                    obtain ⟨Ao24, co24, eo24⟩ := Kd.R_slice HO_8.out
                    subst eo24
                    have p135 : 0 ≤ (x11_2 : Int) := of_decide_eq_true (by first | (with_reducible assumption) | assumption)
                    have q135 : x11_2 < (t129.length : Int) := of_decide_eq_true (by first | (with_reducible assumption) | assumption)
                    obtain ⟨ad135, e135, hx135_0, hx135_1⟩ := at_T49 (Kd.R_reads' HO_8.out).2.2 x11_2 p135 q135
                    (try rw [← Nbq14.out] at hx135_0)
                    cases e135
                    replace p135 := eq_true p135
                    replace q135 := eq_true q135
                    have p136 : 0 ≤ (x11_2 : Int) := of_decide_eq_true (by first | (with_reducible assumption) | assumption)
                    have q136 : x11_2 < (t129.length : Int) := of_decide_eq_true (by first | (with_reducible assumption) | assumption)
                    obtain ⟨ad136, e136, hx136_0, hx136_1⟩ := at_T49 (Kd.R_reads' HO_8.out).2.2 x11_2 p136 q136
                    (try rw [← Nbq14.out] at hx136_0)
                    obtain rfl : ad135 = ad136 := (by injection e136)
                    replace p136 := eq_true p136
                    replace q136 := eq_true q136
                    go_wp2
                    go_roundg k2
                    case measure => have := HJ4.out; have := HK2.out; omega
                    case rel => exact ⟨(x10_2 ++ ((rd_T49 t129 x11_2).f1)), (wrap64 (x11_2 + 1)), (by first | rfl | (simp; done) | (simp [*]; done)), (by first | rfl | (simp; done) | (simp [*]; done)), H', ⟨by have := HJ4.out; have := HK2.out; omega⟩, ⟨by (with_reducible repeat (first | apply Kd.R_alloc | apply Kd.R_drewN | apply Kd.R_drew)); exact HO_8.out⟩, ⟨by repeat (first | (with_reducible first | exact HB.out | apply below_alloc | apply pw_below_drewN | apply below_drew1) | exact HB.out)⟩⟩
                  · rw [if_neg c23] at H
                    exact absurd H (by simp)
              · rw [if_neg c13] at H
                exact absurd H (by simp)
            · rw [if_neg c12] at H
              have c12b0 : decide (x11_2 < (t129.length : Int)) = false := decide_eq_false c12
              clear c12
              by_cases c25 : (x10_2.size : Int) > 256
              · rw [if_pos c25] at H
                have c25b0 : decide (256 < (x10_2.size : Int)) = true := decide_eq_true c25
                have c25b1 : decide (256 < x10_2.size) = true := decide_eq_true (by omega)
                clear c25
                simp only [Option.some.injEq, Prod.mk.injEq] at H
                obtain ⟨rfl, rfl⟩ := H
                obtain ⟨Ao26, co26, eo26⟩ := Kd.R_slice HO_8.out
                subst eo26
                go_wp2
                go_ret2
                exact ⟨by first | rfl | (simp [errW_none, errW_some] <;> rfl) | (simp [*, errW_none, errW_some] <;> rfl), by repeat (first | (with_reducible first | exact HB.out | apply below_alloc | apply pw_below_drewN | apply below_drew1) | exact HB.out)⟩
              · rw [if_neg c25] at H
                have c25b0 : decide (256 < (x10_2.size : Int)) = false := decide_eq_false c25
                have c25b1 : decide (256 < x10_2.size) = false := decide_eq_false (by omega)
                clear c25
                simp only [Option.some.injEq, Prod.mk.injEq] at H
                obtain ⟨rfl, rfl⟩ := H
                obtain ⟨Ao27, co27, eo27⟩ := Kd.R_slice HO_8.out
                subst eo27
                go_wp2
                go_ret2
                exact ⟨by first | rfl | (simp [errW_none, errW_some] <;> rfl) | (simp [*, errW_none, errW_some] <;> rfl), by repeat (first | (with_reducible first | exact HB.out | apply below_alloc | apply pw_below_drewN | apply below_drew1) | exact HB.out)⟩

end Go.Proofs.Ytbkgcdjbkoeejaa.Print
